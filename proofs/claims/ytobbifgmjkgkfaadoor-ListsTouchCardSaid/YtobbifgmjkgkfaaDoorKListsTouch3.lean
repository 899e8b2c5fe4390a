/- WHAT IS USED IS LAST TO GO: a node that was touched is ahead of all others of its list, which stay in their order; if there are others, it is not the oldest. (part 3 of 7) -/
import Derived.Test.YtobbifgmjkgkfaaDoorKListsTouch2
import Derived.Carry
import Derived.ChangeArms
import Derived.ChangeOld
import Derived.KernelRfl
import Derived.Laws.RangeString
import Derived.Lib.AppendZeros
import Derived.Scope
import Derived.Test.YtobbifgmjkgkfaaDoorProg
import Derived.WideShapes
namespace Go.Va
open Go Go.RowKit
set_option linter.unusedVariables false
set_option linter.unusedSimpArgs false

/-- What is known at a law's begin: what lies in memory. -/
def argG (w : World) : Ghost := ⟨fun b o => match w.cell? ⟨b, o, none⟩ with | some v => if v.oneCell' = true then some v else none | none => none, fun _ => none, fun _ => none, 0, fun _ => false, fun _ => 0⟩
theorem argG_fz {w : World} {b o : Nat} {v : Value} (h : w.cell? ⟨b, o, none⟩ = some v) (h1 : v.oneCell' = true) : (argG w).fz b o = some v := by
  simp [argG, h, h1]
theorem argG_inv (w : World) {gl : List (Addr × Value)} (hgl : ∀ p ∈ gl, w.cell? p.1 = some p.2) : Inv w (argG w) w ⟨[], [], gl⟩ := by
  refine ⟨Below.refl _ _, fun b o v h => ?_, fun id c h => by simp at h, fun id b o c h => by simp [argG] at h, fun id b h => by simp [argG] at h, fun id b h => by simp [argG] at h, fun i j b c d h => by simp [argG] at h, fun t b top en h => by simp at h, fun t x h => by simp [argG] at h, fun t t' x x' h => by simp at h, Nat.le_refl _, fun b h => by simp [argG] at h, hgl, fun id a h => by simp at h⟩
  simp only [argG] at h
  split at h
  case h_2 => cases h
  rename_i u hu
  split at h
  case isFalse => cases h
  rename_i h1
  cases h
  exact ⟨hu, h1⟩
/-- THE BRIDGE. -/
theorem ACall.said {P : Program} {n : FuncId} {args : List AV} {vs : Array Value} {w : World} {gl : List (Addr × Value)} (hgl : ∀ p ∈ gl, w.cell? p.1 = some p.2) (hc : ACall P n args ⟨[], [], gl⟩ (fun a τ => a = eB true ∧ τ = ⟨[], [], gl⟩)) (hr : RelL (argG w) vs.toList args) :
    Calls P n vs w fun e w' => e = .returned (.bool true) ∧ Below w.heap.size w w' :=
  (hc.2 w (argG w) w vs (argG_inv w hgl) hr).mono fun e w' ⟨v, a, σ', G', h1, _, h3, h4, h5, _⟩ => by
    subst h5
    cases h4
    exact ⟨h1, h3.below⟩

/-- Data of a type, in memory, are values of a kind. -/
def Opens (P : Program) (t : TypeId) {α : Type} (e : α → AV) (wf : α → Prop) : Prop :=
  ∀ {H : Type} (enc : TypeId × Value → H) (w : World) (fuel : Nat) (cs : List Value) (x : DataW H × List MemPlace), DataW.trod enc P w 0 (fun _ => true) true fuel t cs = some x → ∃ y : α, wf y ∧ RelL (argG w) cs (e y).cells ∧ ∀ v ∈ cs, v.oneCell' = true
def wfI (k : IntKind) (n : Int) : Prop := k.min ≤ n ∧ n ≤ k.max
def wfL {α : Type} (wf : α → Prop) (l : List α) : Prop := l.length ≤ maxLen ∧ ∀ x ∈ l, wf x
def wfS (s : List (BitVec 8)) : Prop := s.length ≤ maxLen
def wfT {α : Type} (_ : α) : Prop := True
section
variable {P : Program} {Ty : TypeId → Option TI} {t E : TypeId}
theorem wf_iff {k : IntKind} {n : Int} (h : (Lit.int k n).wf = true) : wfI k n := by
  simp only [Lit.wf, Bool.and_eq_true, decide_eq_true_eq] at h; exact h
theorem opens_i {k : IntKind} (h : P.underlying t = some (.int k)) : Opens P t (eK k) (wfI k) := by
  intro H enc w fuel cs x hx
  obtain ⟨n, rfl, _, hw⟩ := DataW.trod_int h hx
  exact ⟨n, wf_iff hw, (RelL.nil _).cons (.int _ _), by simp [Value.oneCell']⟩
theorem opens_i64 (h : P.underlying t = some (.int .i64)) : Opens P t eI (wfI .i64) := opens_i h
theorem opens_u {k : IntKind} {m : Nat} (hs : k.signed = false) (hb : k.bits = m) (h : P.underlying t = some (.int k)) : Opens P t (@eU k m) wfT := by
  subst hb
  intro H enc w fuel cs x hx
  obtain ⟨n, rfl, _, hw⟩ := DataW.trod_int h hx
  have hw := wf_iff hw
  simp only [wfI, IntKind.min, IntKind.max, hs, Bool.false_eq_true, if_false] at hw
  refine ⟨BitVec.ofInt k.bits n, trivial, ?_, by simp [Value.oneCell']⟩
  have e : ((BitVec.ofInt k.bits n).toNat : Int) = n := by
    rw [BitVec.toNat_ofInt]
    have h2 : (2 : Int) ^ k.bits = ((2 ^ k.bits : Nat) : Int) := by simp
    rw [h2] at hw
    rw [Int.emod_eq_of_lt hw.1 (by omega), Int.toNat_of_nonneg hw.1]
  show RelL _ _ [AV.int k ((BitVec.ofInt k.bits n).toNat : Int)]
  rw [e]
  exact (RelL.nil _).cons (.int _ _)
theorem opens_b (h : P.underlying t = some .bool) : Opens P t eB wfT := by
  intro H enc w fuel cs x hx
  obtain ⟨b, rfl, _⟩ := DataW.trod_bool h hx
  exact ⟨b, trivial, (RelL.nil _).cons (.bool _), by simp [Value.oneCell']⟩
theorem opens_s (h : P.underlying t = some .string) : Opens P t eS wfS := by
  intro H enc w fuel cs x hx
  obtain ⟨s, rfl, _, hs⟩ := DataW.trod_string h hx
  refine ⟨s.data.toList.map (·.toBitVec), ?_, ?_, by simp [Value.oneCell']⟩
  · simpa [wfS] using hs
  · show RelL _ _ [AV.str _]
    rw [mkB_of]
    exact (RelL.nil _).cons (.str _)
theorem cellsOf_ty (hT : TyOk P Ty) {i : TI} (h : Ty t = some i) : P.cellsOf t = i.sz := by
  obtain ⟨_, ti, z, h1, h2, _⟩ := hT t i h
  simp [Program.cellsOf, h1, h2]
theorem cellsOf_sz (hT : TyOk P Ty) {sz : Nat} (h : szOf Ty t = sz) (h0 : sz ≠ 0) : P.cellsOf t = sz := by
  unfold szOf at h
  split at h
  · rename_i i hi; rw [cellsOf_ty hT hi, h]
  · exact absurd h.symm h0
theorem opens_l (hT : TyOk P Ty) {sz : Nat} {α : Type} {e : α → AV} {wf : α → Prop} (h : P.underlying t = some (.slice E)) (he : Enc Ty E sz e) (ho : Opens P E e wf) : Opens P t (eL sz e) (wfL wf) := by
  intro H enc w fuel cs x hx
  rcases DataW.trod_slice h hx with ⟨rfl, _⟩ | ⟨a, len, cap, elems, rest, n, _, rfl, _, _, hlc, hcm, hel, hat, _, _⟩
  · exact ⟨[], ⟨Nat.zero_le _, fun x hx => by cases hx⟩, (RelL.nil _).cons (.sl0 none 0 .no sz (Nat.zero_le _) (.inl rfl)), by simp [Value.oneCell']⟩
  · rw [cellsOf_sz hT he.ty he.pos] at hat
    have key : ∀ i, i < len → ∃ cs' y, w.cells? 0 (a.add (i * sz)) sz = some cs' ∧ wf y ∧ RelL (argG w) cs' (e y).cells ∧ ∀ v ∈ cs', v.oneCell' = true := fun i hi => by
      have h1 := hat i hi
      rw [List.getElem?_eq_getElem (by omega)] at h1
      obtain ⟨cs', h2, h3⟩ := Option.bind_eq_some_iff.1 h1
      obtain ⟨y, h4, h5, h6⟩ := ho enc w n cs' _ h3
      exact ⟨cs', y, h2, h4, h5, h6⟩
    -- the values, one by one
    have all : ∀ m, m ≤ len → ∃ ys : List α, ys.length = m ∧ (∀ y ∈ ys, wf y) ∧ ∀ (i : Nat) (y : α), ys[i]? = some y → ∃ cs', w.cells? 0 (a.add (i * sz)) sz = some cs' ∧ RelL (argG w) cs' (e y).cells ∧ ∀ v ∈ cs', v.oneCell' = true := by
      intro m
      induction m with
      | zero => exact fun _ => ⟨[], rfl, (fun y hy => by cases hy), fun i y hy => by simp at hy⟩
      | succ m ih =>
        intro hm
        obtain ⟨ys, h1, h2, h3⟩ := ih (by omega)
        obtain ⟨cs', y, k1, k2, k3, k4⟩ := key m (by omega)
        refine ⟨ys ++ [y], by simp [h1], fun z hz => ?_, fun i z hz => ?_⟩
        · rcases List.mem_append.1 hz with hz | hz
          · exact h2 z hz
          · simp at hz; subst hz; exact k2
        · rw [List.getElem?_append] at hz
          split at hz
          · exact h3 i z hz
          · rename_i hi
            have : i - ys.length = 0 := by
              rcases Nat.eq_zero_or_pos (i - ys.length) with h0 | h0
              · exact h0
              · rw [List.getElem?_eq_none (by simp; omega)] at hz; cases hz
            rw [this] at hz
            simp at hz
            subst hz
            rw [show i = m by omega]
            exact ⟨cs', k1, k3, k4⟩
    obtain ⟨ys, h1, h2, h3⟩ := all len (Nat.le_refl _)
    refine ⟨ys, ⟨by omega, h2⟩, (RelL.nil _).cons ?_, by simp [Value.oneCell']⟩
    have hz : ∀ z ∈ ys.map e, z.cells.length = sz := fun z hz => by obtain ⟨y, _, rfl⟩ := List.mem_map.1 hz; exact he.len y
    cases ys with
    | nil =>
      simp at h1
      subst h1
      exact .sl0 _ _ .no sz hcm (.inl rfl)
    | cons y0 ys0 =>
      have hsp : a.spot = none := by
        obtain ⟨cs', k1, _, _⟩ := h3 0 y0 rfl
        obtain ⟨_, k2, k3⟩ := World.cells?_some k1
        have := k3 0 (Nat.pos_of_ne_zero he.pos)
        rw [Nat.zero_mul] at this
        have e0 : (a.add 0).add 0 = a := by simp [Addr.add]
        rw [e0, List.getElem?_eq_getElem (by have := Nat.pos_of_ne_zero he.pos; omega)] at this
        exact World.cell?_spot this
      obtain ⟨b, o, sp⟩ := a
      simp only at hsp
      subst hsp
      have hl : ((y0 :: ys0).map e).length = len := by rw [List.length_map]; exact h1
      have hcell : ∀ (i : Nat) (z : AV) (j : Nat) (u : AV), ((y0 :: ys0).map e)[i]? = some z → z.cells[j]? = some u → ∃ v, w.cell? ⟨b, o + i * sz + j, none⟩ = some v ∧ v.oneCell' = true ∧ Rel (argG w) v u := by
        intro i z j u e1 e2
        rw [List.getElem?_map, Option.map_eq_some_iff] at e1
        obtain ⟨y, e1, rfl⟩ := e1
        obtain ⟨cs', k1, k2, k3⟩ := h3 i y e1
        obtain ⟨_, k4, k5⟩ := World.cells?_some k1
        obtain ⟨v, hv, hr⟩ := k2.get e2
        have hj : j < sz := by rw [← k4]; exact (List.getElem?_eq_some_iff.1 hv).1
        have := k5 j hj
        rw [Addr.add_lit, Addr.add_lit, hv] at this
        exact ⟨v, this, k3 v (List.mem_of_getElem? hv), hr⟩
      have key2 := Rel.sl (G := argG w) b o cap .no sz ((y0 :: ys0).map e) (fun i j => (w.cell? ⟨b, o + i * sz + j, none⟩).getD undef) (by rw [hl]; exact hlc) hcm hz (fun i z j u e1 e2 => by
        obtain ⟨v, k1, k2, k3⟩ := hcell i z j u e1 e2
        rw [k1]
        exact argG_fz k1 k2) (fun i z j u e1 e2 => by
        obtain ⟨v, k1, k2, k3⟩ := hcell i z j u e1 e2
        rw [k1]
        exact k3) trivial
      rw [hl] at key2
      exact key2
/-! ### structures -/
theorem rel_piece {G : Ghost} {cs : List Value} {o s : Nat} {a b : List AV} (h : RelL G ((cs.drop o).take s) a) (k : RelL G (cs.drop (o + s)) b) : RelL G (cs.drop o) (a ++ b) := by
  have := h.append k
  rw [← List.drop_drop, List.take_append_drop] at this
  exact this
theorem rel_end {G : Ghost} {cs : List Value} {n : Nat} (h : cs.length = n) : RelL G (cs.drop n) [] := by
  rw [List.drop_of_length_le (by omega)]; exact RelL.nil G
theorem one_piece {cs : List Value} {o s : Nat} (h : ∀ v ∈ (cs.drop o).take s, v.oneCell' = true) (k : ∀ v ∈ cs.drop (o + s), v.oneCell' = true) : ∀ v ∈ cs.drop o, v.oneCell' = true := by
  intro v hv
  rw [← List.take_append_drop s (cs.drop o), List.drop_drop] at hv
  rcases List.mem_append.1 hv with hv | hv
  · exact h v hv
  · exact k v hv
theorem one_end {cs : List Value} {n : Nat} (h : cs.length = n) : ∀ v ∈ cs.drop n, v.oneCell' = true := by
  rw [List.drop_of_length_le (by omega)]; intro v hv; cases hv
theorem opens_f {fs : Array Field} {α : Type} {e : α → AV} {wf : α → Prop} {H : Type} {enc : TypeId × Value → H} {w : World} {m : Nat} {cs : List Value} {xs : List (DataW H × List MemPlace)} (hx : ∀ (i : Nat) (f : Field), fs[i]? = some f → DataW.trod enc P w 0 (fun _ => true) true m f.type ((cs.drop f.offset).take (P.cellsOf f.type)) = xs[i]?) (hl : xs.length = fs.size)
    (i : Nat) {f : Field} {o s : Nat} (hf : fs[i]? = some f) (ht : Opens P f.type e wf) (ho : f.offset = o) (hs : P.cellsOf f.type = s) : ∃ y, wf y ∧ RelL (argG w) ((cs.drop o).take s) (e y).cells ∧ ∀ v ∈ (cs.drop o).take s, v.oneCell' = true := by
  subst ho; subst hs
  have h1 := hx i f hf
  have hi : i < fs.size := (Array.getElem?_eq_some_iff.1 hf).1
  rw [List.getElem?_eq_getElem (by omega)] at h1
  exact ht enc w m _ _ h1
/-- An argument, opened. -/
theorem Opens.arg {α : Type} {e : α → AV} {wf : α → Prop} (ho : Opens P t e wf) {sz : Nat} (he : Enc Ty t sz e) (hd : TdOk P t (tdOf Ty t)) {H : Type} {enc : TypeId × Value → H} {w : World} {r : Reach} {b0 : Nat} {v : Value} {d : DataW H} {ps : List MemPlace} (hval : Value.okWide P w r b0 t v) (h : DataW.Trod enc P w 0 (fun _ => true) true t v d ps) : ∃ y : α, wf y ∧ Rel (argG w) v (e y) := by
  obtain ⟨fuel, hf⟩ := h
  obtain ⟨y, h1, h2, _⟩ := ho enc w fuel _ _ hf
  refine ⟨y, h1, ?_⟩
  cases ha : isAggTD (tdOf Ty t) with
  | true =>
    have : ∃ cs, v = .agg cs := by
      cases htd : tdOf Ty t <;> rw [htd] at ha hd <;> simp [isAggTD] at ha
      · simp only [TdOk] at hd
        simp only [Value.okWide, hd] at hval
        obtain ⟨cs, h, _⟩ := hval; exact ⟨cs, h⟩
      · simp only [TdOk] at hd
        obtain ⟨fs, hd, _⟩ := hd
        simp only [Value.okWide, hd] at hval
        obtain ⟨cs, h, _⟩ := hval; exact ⟨cs, h⟩
    obtain ⟨cs, rfl⟩ := this
    rw [he.agg ha y]
    exact mkAgg (by simpa [Value.cells] using h2)
  | false =>
    rw [he.one ha y] at h2
    have hne : ∀ cs, v ≠ .agg cs := by
      rintro cs rfl
      have hl := h2.len
      simp only [Value.cells, List.length_singleton] at hl
      cases htd : tdOf Ty t <;> rw [htd] at ha hd <;> simp [isAggTD] at ha <;> simp only [TdOk] at hd
      case iface => obtain ⟨ms, hd⟩ := hd; simp [Value.okWide, hd, Cell.okWide, Cell.ok] at hval
      case func => obtain ⟨ps, rs, vv, hd⟩ := hd; simp [Value.okWide, hd, Cell.okWide, Cell.ok] at hval
      all_goals simp [Value.okWide, hd, Cell.okWide, Cell.ok] at hval
    have hc : v.cells.toList = [v] := by cases v <;> first | rfl | exact absurd rfl (hne _)
    rw [hc] at h2
    exact h2.at_ 0 v (e y) rfl rfl
end
end Go.Va
namespace Go.Va
open Go Go.RowKit
set_option linter.unusedVariables false
set_option linter.unusedSimpArgs false
mutual
/-- A value that speaks of no variable, and of no room. -/
def purA : AV → Bool
  | .sl .no _ es => purL es
  | .sl .full _ _ => false
  | .sl (.own _) _ _ => false
  | .agg cs => purL cs
  | .tup vs => purL vs
  | .fptr x _ => purL x
  | .iface _ v => purA v
  | .fn _ a b => purL a && purL b
  | .ref _ _ => false
  | .msl _ _ _ => false
  | .vec _ _ _ => false
  | .vc _ _ _ _ _ => false
  | .junk => true
  | .int _ _ => true
  | .bool _ => true
  | .str _ => true
  | .nilp => true
  | .nils => true
  | .nilm => true
  | .nilf => true
  | .nili => true
  | .spc _ => false
  | .mapr _ => false
  | .itc _ _ => false
  | .mpc _ _ => false
def purL : List AV → Bool
  | [] => true
  | a :: l => purA a && purL l
end
theorem purL_iff : ∀ {l : List AV}, purL l = true ↔ ∀ a ∈ l, purA a = true
  | [] => by simp [purL]
  | a :: l => by simp [purL, purL_iff (l := l)]
theorem purL_append (l m : List AV) : purL (l ++ m) = (purL l && purL m) := by
  induction l with
  | nil => simp [purL]
  | cons a l ih => simp [purL, ih, Bool.and_assoc]
theorem pur_cells {a x : AV} (h : purA a = true) (hx : x ∈ a.cells) : purA x = true := by
  cases a with
  | agg cs =>
    have h' : purL cs = true := by simpa [purA] using h
    exact purL_iff.1 h' x hx
  | _ => simp [AV.cells] at hx; subst hx; exact h
theorem Rel.pur {G G2 : Ghost} (hz : ∀ b o u, G.fz b o = some u → G2.fz b o = some u) {v : Value} {a : AV} (h : Rel G v a) (hp : purA a = true) : Rel G2 v a := by
  induction h with
  | junk v => exact .junk v
  | int k n => exact .int k n
  | bool b => exact .bool b
  | str s => exact .str s
  | nilp => exact .nilp
  | nils => exact .nils
  | nilm => exact .nilm
  | nilf => exact .nilf
  | nili => exact .nili
  | spc id b h => cases hp
  | mapr id b h => cases hp
  | agg vs aas hl _ ih => exact .agg vs aas hl fun i v a h1 h2 => ih i v a h1 h2 (purL_iff.1 (by simpa [purA] using hp) a (List.mem_of_getElem? h2))
  | tup vs aas hl _ ih => exact .tup vs aas hl fun i v a h1 h2 => ih i v a h1 h2 (purL_iff.1 (by simpa [purA] using hp) a (List.mem_of_getElem? h2))
  | sl b o c t sz es val hc hm hzz hf _ ht ih =>
    cases t with
    | no =>
      have hp' : ∀ e ∈ es, purA e = true := purL_iff.1 (by simpa [purA] using hp)
      exact .sl b o c .no sz es val hc hm hzz (fun i e j a h1 h2 => hz _ _ _ (hf i e j a h1 h2)) (fun i e j a h1 h2 => ih i e j a h1 h2 (pur_cells (hp' e (List.mem_of_getElem? h1)) (List.mem_of_getElem? h2))) trivial
    | _ => cases hp
  | sl0 A c t sz hm ht =>
    cases t with
    | no => exact .sl0 A c .no sz hm (.inl rfl)
    | _ => cases hp
  | fptr b o off x val hf _ ih =>
    have hp' : ∀ e ∈ x, purA e = true := purL_iff.1 (by simpa [purA] using hp)
    exact .fptr b o off x val (fun j a h1 => hz _ _ _ (hf j a h1)) fun j a h1 => ih j a h1 (hp' a (List.mem_of_getElem? h1))
  | ref id off b h => cases hp
  | msl id off len c b hc h => cases hp
  | vec id sz len c b h0 hc hm h hs => cases hp
  | vec0 A id sz => cases hp
  | vc id sz off len c b hc hm h hs => cases hp
  | iface t v a _ ih => exact .iface t v a (ih (by simpa [purA] using hp))
  | fn f fs cs fa ca hl hk _ _ ih1 ih2 =>
    simp only [purA, Bool.and_eq_true] at hp
    exact .fn f fs cs fa ca hl hk (fun i v a h1 h2 => ih1 i v a h1 h2 (purL_iff.1 hp.1 a (List.mem_of_getElem? h2))) (fun i v a h1 h2 => ih2 i v a h1 h2 (purL_iff.1 hp.2 a (List.mem_of_getElem? h2)))
theorem pur_eL {α : Type} {e : α → AV} {sz : Nat} (h : ∀ x, purA (e x) = true) (l : List α) : purA (eL sz e l) = true := by
  simp only [eL, purA]
  exact purL_iff.2 fun a ha => by obtain ⟨x, _, rfl⟩ := List.mem_map.1 ha; exact h x
/-- What an argument is seen as. -/
inductive BArg (σ : St) : AV → AV → Prop where
  | wk {a b : AV} (h : Wk a b) (hp : purA b = true) : BArg σ a b
  | vec {id sz n : Nat} {es : List AV} (hc : σ.objs[id]? = some (flat es)) (hsp : spcl (flat es) = false) (hn : n = es.length) (hz : ∀ e ∈ es, e.cells.length = sz) (hs : sz ≠ 0) (hp : purL es = true) : BArg σ (.vec id sz n) (.sl .no sz es)
  | vc {id sz off n cap : Nat} {cells es : List AV} (hc : σ.objs[id]? = some cells) (hsp : spcl cells = false) (hle : off + n * sz ≤ cells.length) (hcs : (cells.drop off).take (n * sz) = flat es) (hn : n = es.length) (hz : ∀ e ∈ es, e.cells.length = sz) (hs : sz ≠ 0) (hp : purL es = true) : BArg σ (.vc id sz off n cap) (.sl .no sz es)
inductive BArgs (σ : St) : List AV → List AV → Prop where
  | nil : BArgs σ [] []
  | cons {a b : AV} {aas bs : List AV} (h : BArg σ a b) (t : BArgs σ aas bs) : BArgs σ (a :: aas) (b :: bs)
theorem BArg.rel {σ : St} {w0 : World} {G : Ghost} {w : World} (hI : Inv w0 G w σ) {a b : AV} (h : BArg σ a b) {v : Value} (hr : Rel G v a) : Rel (argG w) v b := by
  have hz : ∀ b o u, G.fz b o = some u → (argG w).fz b o = some u := fun b o u hf => argG_fz (hI.fz b o u hf).1 (hI.fz b o u hf).2
  cases h with
  | wk h hp => exact (h G v hr).pur hz hp
  | @vec id sz n es hc hsp hn hzz hs hp =>
    have hfl := flat_length hzz
    cases hr with
    | vec0 A _ _ =>
      have hnil : es = [] := List.eq_nil_of_length_eq_zero hn.symm
      subst hnil
      exact .sl0 A 0 .no sz (Nat.zero_le _) (.inl rfl)
    | vec _ _ _ c b h0 hc' hm hl hbs =>
      have hne : flat es ≠ [] := fun he => by
        have h2 : (flat es).length = 0 := by rw [he]; rfl
        rw [hfl] at h2
        rcases Nat.mul_eq_zero.1 h2 with h | h
        · omega
        · exact hs h
      obtain ⟨b', T, vs, k1, k2, k3, k4, k5, k6⟩ := hI.loc _ _ hc hne hsp
      rw [hl] at k1
      injection k1 with k1
      subst k1
      have hrel : RelL (argG w) (vs.toList.take (flat es).length) (flat es) := ⟨k4.rel.len, fun i u a h1 h2 => (k4.rel.at_ i u a h1 h2).pur hz (by
        obtain ⟨e, he, ha⟩ := List.mem_flatMap.1 (show a ∈ es.flatMap AV.cells from by have := List.mem_of_getElem? h2; simpa [flat] using this)
        exact pur_cells (purL_iff.1 hp e he) ha)⟩
      rw [hn]
      refine Rel.mkSl (b := b) (o := 0) (t := .no) (by omega) hm hzz hrel (fun j u hu => ?_) trivial
      rw [Nat.zero_add]
      rw [List.getElem?_take] at hu
      split at hu
      · refine argG_fz ?_ (k5 u (List.mem_iff_getElem?.2 ⟨j, hu⟩))
        rw [cell_of_row _ _ _ vs T (0, 0) k3]
        simpa using hu
      · cases hu
  | @vc id sz off n cap cells es hc hsp hle hcs hn hzz hs hp =>
    have hfl := flat_length hzz
    cases hr with
    | vc _ _ _ _ _ b hc' hm hl hbs =>
      by_cases hne : cells = []
      · subst hne
        have h0 : n * sz = 0 := by rw [List.length_nil] at hle; omega
        have hn0 : n = 0 := by
          rcases Nat.mul_eq_zero.1 h0 with h | h
          · exact h
          · exact absurd h hs
        subst hn0
        have hnil : es = [] := List.eq_nil_of_length_eq_zero hn.symm
        subst hnil
        exact .sl0 _ cap .no sz hm (.inl rfl)
      · obtain ⟨b', T, vs, k1, k2, k3, k4, k5, k6⟩ := hI.loc _ _ hc hne hsp
        rw [hl] at k1
        injection k1 with k1
        subst k1
        have hvs : cells.length ≤ vs.size := k4.le
        have hcl : (flat es).length = n * sz := by rw [hfl, ← hn]
        have hrel : RelL (argG w) ((vs.toList.drop off).take (n * sz)) (flat es) := ⟨by rw [hcl, List.length_take, List.length_drop, Array.length_toList]; omega, fun i u a h1 h2 => by
          have hi : i < n * sz := by rw [← hcl]; exact (List.getElem?_eq_some_iff.1 h2).1
          rw [List.getElem?_take, if_pos hi, List.getElem?_drop] at h1
          have h3 := h2
          rw [← hcs, List.getElem?_take, if_pos hi, List.getElem?_drop] at h3
          refine (k4.rel.at_ (off + i) u a (by rw [List.getElem?_take, if_pos (by omega)]; exact h1) h3).pur hz ?_
          obtain ⟨e, he, ha⟩ := List.mem_flatMap.1 (show a ∈ es.flatMap AV.cells from by have := List.mem_of_getElem? h2; simpa [flat] using this)
          exact pur_cells (purL_iff.1 hp e he) ha⟩
        rw [hn] at hrel hc' ⊢
        refine Rel.mkSl (b := b) (o := off) (t := .no) hc' hm hzz hrel (fun j u hu => ?_) trivial
        rw [List.getElem?_take] at hu
        split at hu
        · rw [List.getElem?_drop] at hu
          refine argG_fz ?_ (k5 u (List.mem_iff_getElem?.2 ⟨off + j, hu⟩))
          rw [cell_of_row _ _ _ vs T (0, 0) k3]
          simpa using hu
        · cases hu
theorem BArgs.rel {σ : St} {w0 : World} {G : Ghost} {w : World} (hI : Inv w0 G w σ) : ∀ {aas bs : List AV} (_ : BArgs σ aas bs) {vs : List Value}, RelL G vs aas → RelL (argG w) vs bs
  | _, _, .nil, vs, h => ⟨h.len, fun i v a _ h2 => by simp at h2⟩
  | _, _, .cons (a := a) h t, vs, hr => by
    cases vs with
    | nil => have := hr.len; simp at this
    | cons v vs =>
      exact RelL.cons (h.rel hI (hr.at_ 0 v a rfl rfl)) (t.rel hI ⟨by simpa using hr.len, fun i u b e1 e2 => hr.at_ (i + 1) u b (by simpa using e1) (by simpa using e2)⟩)
/-- A value that speaks of no memory. -/
def sclA : AV → Bool
  | .int _ _ => true
  | .bool _ => true
  | .str _ => true
  | .tup [] => true
  | .tup [.int _ _, .bool _] => true
  | .tup [.int _ _, .int _ _] => true
  | _ => false
section
variable {P : Program} {Ty : TypeId → Option TI} {σ : St} {fr : Nat → AV}
/-- A variable is seen as less. -/
theorem Inv.wko {w0 : World} {G : Ghost} {w : World} {σ : St} (h : Inv w0 G w σ) {id : Nat} {c c' : List AV} (hc : σ.objs[id]? = some c) (hsp : spcl c = false) (hw : WkL c c') : Inv w0 G w ⟨σ.objs.set id c', σ.opn, σ.gl⟩ := by
  have hlen : ∀ {a b : List AV}, WkL a b → a.length = b.length := by
    intro a b h
    induction h with
    | nil => rfl
    | cons _ _ ih => simp [ih]
  have hl := hlen hw
  have hlt := (List.getElem?_eq_some_iff.1 hc).1
  have key : ∀ (i : Nat) (d : List AV), (σ.objs.set id c')[i]? = some d → d ≠ [] → ∃ d', σ.objs[i]? = some d' ∧ d' ≠ [] ∧ (spcl d = false → spcl d' = false) ∧ WkL d' d := by
    intro i d hd hn
    rw [List.getElem?_set] at hd
    split at hd
    · rename_i he; subst he
      have hd' : c' = d := by
        first
          | exact Option.some.inj hd
          | (rw [if_pos hlt] at hd; exact Option.some.inj hd)
      subst hd'
      exact ⟨c, hc, fun h => by rw [h] at hl; exact hn (List.eq_nil_of_length_eq_zero hl.symm), fun _ => hsp, hw⟩
    · exact ⟨d, hd, hn, fun h => h, .refl d⟩
  refine ⟨h.below, h.fz, fun i d hd hn hs => ?_, fun i b o d hl' hd hn => ?_, h.loclt, fun i b hl' => by simpa using h.locdom i b hl', fun i j b d e hi hj hd he hn hn' => ?_, fun t b top en ho ht => ?_, h.tokdom, h.tokinj, h.nt, h.lit, h.gl, h.sp_to (.refl G) (fun _ _ _ h => h) (fun i a h1 h2 => by
      simp only at h1
      rw [List.getElem?_set] at h1
      split at h1
      · have e : c' = [a] := by
          first
            | exact Option.some.inj h1
            | (rw [if_pos (by omega)] at h1; exact Option.some.inj h1)
        obtain ⟨b, T, vs, e1, e2, e3, e4, e5, e6⟩ := h.loc id c hc (fun h0 => by rw [h0] at hl; rw [e] at hl; cases hl) hsp
        have hx := rell_nsp (hw.rel e4.rel)
        rw [e] at hx
        simp only [spcl] at hx
        rw [hx] at h2; cases h2
      · exact h1)⟩
  · obtain ⟨d', a1, a2, aq, a3⟩ := key i d hd hn
    obtain ⟨b, T, vs, e1, e2, e3, e4, e5, e6⟩ := h.loc i d' a1 a2 (aq hs)
    have hdl := hlen a3
    exact ⟨b, T, vs, e1, e2, e3, ⟨by rw [← hdl]; exact e4.le, by rw [← hdl]; exact a3.rel e4.rel⟩, e5, e6⟩
  · obtain ⟨d', a1, a2, _⟩ := key i d hd hn
    exact h.locfz i b o d' hl' a1 a2
  · obtain ⟨d', a1, a2, _⟩ := key i d hd hn
    obtain ⟨e', b1, b2, _⟩ := key j e he hn'
    exact h.locinj i j b d' e' hi hj a1 b1 a2 b2
  · obtain ⟨e1, e2, e3, e4⟩ := h.tok t b top en ho ht
    refine ⟨e1, e2, e3, fun i hi => ?_⟩
    have h0 := e4 i hi
    rw [List.getElem?_set]
    split
    · rename_i he; subst he
      rw [hc] at h0; cases h0
      have : c' = [] := List.eq_nil_of_length_eq_zero hl.symm
      subst this
      first | rfl | rw [if_pos hlt]
    · exact h0
theorem AWP.wko {n : Nat} {c : Code} {Q : AExit → (Nat → AV) → St → Prop} {l : List (Nat × AV)} {σ0 : St} {O : List (Nat × List AV)} {A : List Nat} (hH : Holds σ0 O A σ) (k : Nat) {id : Nat} {c0 c1 : List AV} (hk : O[k]? = some (id, c0)) (hw : WkL c0 c1) (h : ∀ τ, Holds σ0 (O.set k (id, c1)) A τ → AWP P n c Q (Va.fm l) τ) (hsp : spcl c0 = false := by first | rfl | exact spcl_cL (by assumption) _) : AWP P n c Q (Va.fm l) σ := fun w0 G a w hS =>
  h _ (hH.put k hk c1) w0 G a w ⟨hS.inv.wko (hH.at_ k hk) hsp hw, hS.frm, hS.size, hS.defers⟩
end
end Go.Va
namespace Go.Va
open Go Go.RowKit
section
variable {P : Program} {Ty : TypeId → Option TI} {σ σ' : St} {fr : Nat → AV}
/-- Things of a few simple fields, side by side. -/
def eqCells (P : Program) : List Field → List AV → List AV → Option Bool
  | [], _, _ => some true
  | f :: fs, cs, ds => if f.name = "_" then none else match cs[f.offset]?, ds[f.offset]?, P.underlying f.type with
    | some (.int k a), some (.int k' b), some (.int _) => if k = k' then (if a == b then eqCells P fs cs ds else some false) else none
    | some (.str a), some (.str b), some .string => if decide (a = b) then eqCells P fs cs ds else some false
    | some (.bool a), some (.bool b), some .bool => if a == b then eqCells P fs cs ds else some false
    | _, _, _ => none
variable {d : Option Tmp} {ty : TypeId} {pos : String} {af : Array Edge} {g : Option (Nat × Bool)} {ox oy oi : Operand} {T T' E U : TypeId}
end
end Go.Va
namespace Go.Va
open Go Go.RowKit
set_option linter.unusedVariables false
set_option linter.unusedSimpArgs false
section
variable {P : Program} {Ty : TypeId → Option TI} {σ σ0 : St} {O : List (Nat × List AV)} {A : List Nat} {fr : Nat → AV} {d : Option Tmp} {ty : TypeId} {pos : String} {af : Array Edge} {g : Option (Nat × Bool)} {ox oy oi : Operand} {T T' E U : TypeId} {α : Type} {e : α → AV} {sz id off cap : Nat}
/-- Things that stand in a variable from a place on, and how many have room. -/
structure PartV (e : α → AV) (sz : Nat) (c : List AV) (off cap : Nat) (l : List α) : Prop where
  le : off + l.length * sz ≤ c.length
  at_ : (c.drop off).take (l.length * sz) = cL e l
  room : l.length ≤ cap
  nsp : spcl c = false
def vco (sz off cap l : Nat) : Nat := if cap = l then off else off + l * sz
theorem PartV.all (he : Enc Ty E sz e) {l : List α} (h : l.length ≤ cap) : PartV e sz (cL e l) 0 cap l :=
  have hl := cL_length he.len l
  ⟨by rw [hl]; omega, by rw [List.drop_zero, List.take_of_length_le (by rw [hl]; exact Nat.le_refl _)], h, spcl_cL he l⟩
theorem PartV.cutN (he : Enc Ty E sz e) {c : List AV} {l : List α} (hp : PartV e sz c off cap l) {a b : Nat} (h1 : a ≤ b) (h2 : b ≤ l.length) : PartV e sz c (vco sz off cap a) (cap - a) ((l.take b).drop a) := by
  have hlen : ((l.take b).drop a).length = b - a := by rw [List.length_drop, List.length_take]; omega
  have hroom := hp.room
  have hle := hp.le
  have hab : (b - a) * sz = b * sz - a * sz := Nat.sub_mul _ _ _
  have hb : b * sz ≤ l.length * sz := Nat.mul_le_mul_right _ h2
  have ha : a * sz ≤ b * sz := Nat.mul_le_mul_right _ h1
  unfold vco
  by_cases hc : cap = a
  · rw [if_pos hc]
    have h0 : b - a = 0 := by omega
    refine ⟨by rw [hlen, h0]; omega, ?_, by omega, hp.nsp⟩
    rw [hlen, h0, Nat.zero_mul, List.take_zero, List.eq_nil_of_length_eq_zero (hlen.trans h0)]
    rfl
  · rw [if_neg hc]
    refine ⟨by rw [hlen, hab]; omega, ?_, by omega, hp.nsp⟩
    rw [hlen, ← cL_drop he.len, ← cL_take he.len, ← hp.at_, List.take_take, Nat.min_eq_left hb, List.drop_take, List.drop_drop, hab]
theorem PartV.cut (he : Enc Ty E sz e) {c : List AV} {l z : List α} (hp : PartV e sz c off cap l) {lo hi : Int} (h : cutO l lo hi = some z) : PartV e sz c (vco sz off cap lo.toNat) (cap - lo.toNat) z := by
  unfold cutO at h
  split at h <;> cases h
  exact hp.cutN he (by omega) (by omega)
theorem PartV.cutFrom (he : Enc Ty E sz e) {c : List AV} {l z : List α} (hp : PartV e sz c off cap l) {lo : Int} (h : cutFrom l lo = some z) : PartV e sz c (vco sz off cap lo.toNat) (cap - lo.toNat) z := by
  unfold Va.cutFrom at h
  split at h <;> cases h
  have := hp.cutN he (a := lo.toNat) (b := l.length) (by omega) (Nat.le_refl _)
  rwa [List.take_length] at this
end
end Go.Va
namespace Go.Va
open Go Go.RowKit
/-! ### as many noughts, appended -/
section
variable {P : Program} {Ty : TypeId → Option TI} {σ σ0 : St} {O : List (Nat × List AV)} {A : List Nat} {fr : Nat → AV} {d : Option Tmp} {ty : TypeId} {pos : String} {af : Array Edge} {g : Option (Nat × Bool)} {ox oy : Operand} {T E U S : TypeId}
end
end Go.Va
namespace Go.Va
open Go Go.RowKit
/-! ### append to nothing, or to what is full: a slice that never changes -/
section
variable {P : Program} {Ty : TypeId → Option TI}
variable {σ σ0 : St} {O : List (Nat × List AV)} {A : List Nat} {fr : Nat → AV} {d : Option Tmp} {ty : TypeId} {pos : String} {af : Array Edge} {g : Option (Nat × Bool)} {ox oy : Operand} {T E U S : TypeId} {α : Type} {e : α → AV} {sz id off cap : Nat}
end
end Go.Va
namespace Go.Va
open Go Go.RowKit
/-! ### a slice that never changes, cut with three bounds -/
def cut3 {α : Type} (l : List α) (k h m : Int) : Option (List α) := if 0 ≤ k ∧ k ≤ h ∧ h ≤ m ∧ m ≤ l.length then some ((l.take h.toNat).drop k.toNat) else none
section
variable {P : Program} {Ty : TypeId → Option TI} {σ : St} {fr : Nat → AV} {d : Option Tmp} {ty : TypeId} {pos : String} {af : Array Edge} {g : Option (Nat × Bool)} {ox oy : Operand} {T E : TypeId} {α : Type} {e : α → AV} {sz : Nat} {k : Tok}
end
end Go.Va
namespace Go.Va
open Go Go.RowKit
/-! ### a nil field of a variable as one that may be appended to -/
/-- Cells, of which some nil slices are seen as ones with a token. -/
inductive NkL (t : Nat) : List AV → List AV → Prop where
  | nil : NkL t [] []
  | same {a : AV} {l m : List AV} (h : NkL t l m) : NkL t (a :: l) (a :: m)
  | tok {sz : Nat} {l m : List AV} (h : NkL t l m) : NkL t (.nils :: l) (.sl (.own t) sz [] :: m)
theorem NkL.len {t : Nat} {l m : List AV} (h : NkL t l m) : l.length = m.length := by
  induction h with
  | nil => rfl
  | same _ ih => simp [ih]
  | tok _ ih => simp [ih]
theorem NkL.rel {t : Nat} {l m : List AV} (h : NkL t l m) {G : Ghost} (ht : t < G.nt) : ∀ {vs : List Value}, RelL G vs l → RelL G vs m := by
  induction h with
  | nil => exact fun h => h
  | same _ ih =>
    intro vs hr
    cases vs with
    | nil => have := hr.len; simp at this
    | cons v vs => exact RelL.cons (hr.at_ 0 v _ rfl rfl) (ih ⟨by simpa using hr.len, fun i u a e1 e2 => hr.at_ (i + 1) u a (by simpa using e1) (by simpa using e2)⟩)
  | tok _ ih =>
    intro vs hr
    cases vs with
    | nil => have := hr.len; simp at this
    | cons v vs =>
      have h1 := hr.at_ 0 v _ rfl rfl
      cases h1
      exact RelL.cons (.sl0 none 0 _ _ (Nat.zero_le _) (.inr ⟨rfl, ht⟩)) (ih ⟨by simpa using hr.len, fun i u a e1 e2 => hr.at_ (i + 1) u a (by simpa using e1) (by simpa using e2)⟩)
theorem Inv.tokO {w0 : World} {G : Ghost} {w : World} {σ : St} (h : Inv w0 G w σ) {id t : Nat} {c c' : List AV} (hc : σ.objs[id]? = some c) (hsp : spcl c = false) (hw : NkL t c c') (ht : t < G.nt) : Inv w0 G w ⟨σ.objs.set id c', σ.opn, σ.gl⟩ := by
  have hl := hw.len
  have hlt := (List.getElem?_eq_some_iff.1 hc).1
  have key : ∀ (i : Nat) (d : List AV), (σ.objs.set id c')[i]? = some d → d ≠ [] → ∃ d', σ.objs[i]? = some d' ∧ d' ≠ [] ∧ (spcl d = false → spcl d' = false) ∧ d'.length = d.length ∧ ∀ vs, RelL G vs d' → RelL G vs d := by
    intro i d hd hn
    rw [List.getElem?_set] at hd
    split at hd
    · rename_i he; subst he
      have hd' : c' = d := by
        first
          | exact Option.some.inj hd
          | (rw [if_pos hlt] at hd; exact Option.some.inj hd)
      subst hd'
      exact ⟨c, hc, fun h => by rw [h] at hl; exact hn (List.eq_nil_of_length_eq_zero hl.symm), fun _ => hsp, hl, fun vs hr => hw.rel ht hr⟩
    · exact ⟨d, hd, hn, fun h => h, rfl, fun _ h => h⟩
  refine ⟨h.below, h.fz, fun i d hd hn hs => ?_, fun i b o d hl' hd hn => ?_, h.loclt, fun i b hl' => by simpa using h.locdom i b hl', fun i j b d e hi hj hd he hn hn' => ?_, fun t b top en ho ht => ?_, h.tokdom, h.tokinj, h.nt, h.lit, h.gl, h.sp_to (.refl G) (fun _ _ _ h => h) (fun i a h1 h2 => by
      simp only at h1
      rw [List.getElem?_set] at h1
      split at h1
      · have e : c' = [a] := by
          first
            | exact Option.some.inj h1
            | (rw [if_pos (by omega)] at h1; exact Option.some.inj h1)
        obtain ⟨b, T, vs, e1, e2, e3, e4, e5, e6⟩ := h.loc id c hc (fun h0 => by rw [h0] at hl; rw [e] at hl; cases hl) hsp
        have hx := rell_nsp (hw.rel ht e4.rel)
        rw [e] at hx
        simp only [spcl] at hx
        rw [hx] at h2; cases h2
      · exact h1)⟩
  · obtain ⟨d', a1, a2, aq, a3, a4⟩ := key i d hd hn
    obtain ⟨b, T, vs, e1, e2, e3, e4, e5, e6⟩ := h.loc i d' a1 a2 (aq hs)
    exact ⟨b, T, vs, e1, e2, e3, ⟨by rw [← a3]; exact e4.le, by rw [← a3]; exact a4 _ e4.rel⟩, e5, e6⟩
  · obtain ⟨d', a1, a2, _⟩ := key i d hd hn
    exact h.locfz i b o d' hl' a1 a2
  · obtain ⟨d', a1, a2, _⟩ := key i d hd hn
    obtain ⟨e', b1, b2, _⟩ := key j e he hn'
    exact h.locinj i j b d' e' hi hj a1 b1 a2 b2
  · obtain ⟨e1, e2, e3, e4⟩ := h.tok t b top en ho ht
    refine ⟨e1, e2, e3, fun i hi => ?_⟩
    have h0 := e4 i hi
    rw [List.getElem?_set]
    split
    · rename_i he; subst he
      rw [hc] at h0; cases h0
      have : c' = [] := List.eq_nil_of_length_eq_zero hl.symm
      subst this
      first | rfl | rw [if_pos hlt]
    · exact h0
theorem AWP.tokO {P : Program} {n : Nat} {c : Code} {Q : AExit → (Nat → AV) → St → Prop} {l : List (Nat × AV)} {σ0 σ : St} {O : List (Nat × List AV)} {A : List Nat} (hH : Holds σ0 O A σ) (k : Nat) {id : Nat} {c0 : List AV} (hk : O[k]? = some (id, c0)) {c1 : Nat → List AV} (hn : ∀ t, NkL t c0 (c1 t))
    (h : ∀ t τ, Holds σ0 (O.set k (id, c1 t)) (t :: A) τ → AWP P n c Q (Va.fm l) τ) (hsp : spcl c0 = false := by first | rfl | exact spcl_cL (by assumption) _) : AWP P n c Q (Va.fm l) σ := fun w0 G a w hS => by
  obtain ⟨hle, hI⟩ := hS.inv.closed .no
  have hm : Holds σ0 O (σ.opn.length :: A) σ.more := hH.more
  have hc : σ.more.objs[id]? = some c0 := hm.at_ k hk
  have hI2 : Inv w0 _ w ⟨σ.more.objs.set id (c1 σ.opn.length), σ.more.opn, σ.more.gl⟩ := Inv.tokO hI hc hsp (hn _) (Nat.lt_succ_self _)
  refine wp_mono (h _ _ (hm.put k hk (c1 σ.opn.length)) w0 _ a w ⟨hI2, hS.frm.mono hle, hS.size, hS.defers⟩) ?_
  rintro e a' w' ⟨ae, fr', σ', G', k1, k2, k3, k4⟩
  exact ⟨ae, fr', σ', G', k1, hle.trans k2, k3, k4⟩
end Go.Va
namespace Go.Va
open Go Go.RowKit
set_option linter.unusedVariables false
set_option linter.unusedSimpArgs false
section
variable {P : Program} {Ty : TypeId → Option TI} {σ : St} {fr : Nat → AV} {d : Option Tmp} {ty : TypeId} {pos : String} {af : Array Edge} {g : Option (Nat × Bool)} {ox oy : Operand} {T T' E : TypeId} {k : Tok} {sz : Nat} {es : List AV}
end
end Go.Va
namespace Go.Va
open Go Go.RowKit
set_option linter.unusedVariables false
set_option linter.unusedSimpArgs false

/-- A piece that is a scope. -/
theorem awp_scope {P : Program} {n : Nat} {c : Code} {Q : AExit → (Nat → AV) → St → Prop} {fr : Nat → AV} {σ : St} (h : AWP P n c Q fr σ) : AWP P n (.scope c) Q fr σ := fun w0 G a w hS => by
  refine wp_scope_straight (wp_mono (h w0 G a w hS) ?_)
  rintro e a' w' ⟨ae, fr', σ', G', h1, h2⟩
  cases e <;> first | exact ⟨ae, fr', σ', G', h1, h2⟩ | exact absurd h1 (by cases ae <;> simp [ExitRel])
section
variable {P : Program} {Ty : TypeId → Option TI} {σ σ0 : St} {O : List (Nat × List AV)} {A : List Nat} {fr : Nat → AV} {d : Option Tmp} {ty : TypeId} {pos : String} {af : Array Edge} {g : Option (Nat × Bool)} {ox oy : Operand} {T : TypeId}
theorem WkL.append : ∀ {a b c d : List AV}, WkL a b → WkL c d → WkL (a ++ c) (b ++ d)
  | _, _, _, _, .nil, h => h
  | _, _, _, _, .cons h t, k => .cons h (t.append k)
/-- What an iterator holds. -/
def cIt (x : List (BitVec 8) × Nat) : List AV := [.itc (mkB x.1) x.2]
/-- The next letter: none, where it is no ASCII; nothing, where there is none. -/
def nxS (x : List (BitVec 8) × Nat) : Option (Option Int) := match x.1[x.2]? with
  | some b => if b.toNat < 128 then some (some (b.toNat : Int)) else none
  | none => some none
end
end Go.Va
namespace Go.Va
open Go Go.RowKit
set_option linter.unusedVariables false
set_option linter.unusedSimpArgs false

/-- The same cells, in other words. -/
theorem Holds.cells {σ0 σ : St} {O : List (Nat × List AV)} {A : List Nat} (h : Holds σ0 O A σ) (k : Nat) {id : Nat} {c : List AV} (c' : List AV) (hk : O[k]? = some (id, c)) (he : c = c') : Holds σ0 (O.set k (id, c')) A σ := by
  subst he
  obtain ⟨hlt, hg⟩ := List.getElem?_eq_some_iff.1 hk
  rw [← hg, List.set_getElem_self]
  exact h
/-- Variables of the caller's, together. -/
theorem Holds.brings {σ : St} (O : List (Nat × List AV)) (ho : ∀ p ∈ O, σ.objs[p.1]? = some p.2) (hd : (O.map (·.1)).Pairwise fun a b => a ≠ b) : Holds σ O [] σ :=
  ⟨fun _ _ h _ => h, fun _ h => h, Nat.le_refl _, Nat.le_refl _, ho, List.pairwise_map.1 hd, fun _ h => (by cases h), .nil, rfl⟩
theorem Holds.pw {σ0 σ : St} {O : List (Nat × List AV)} {A : List Nat} (h : Holds σ0 O A σ) {ids : List Nat} (ks : List Nat) (hk : ks.map (fun k => (O.map (·.1))[k]?) = ids.map some) (hs : ks.Pairwise fun a b => a ≠ b) : ids.Pairwise fun a b => a ≠ b := by
  rw [List.pairwise_iff_getElem] at hs ⊢
  intro i j hi hj hij
  have hl : ks.length = ids.length := by have := congrArg List.length hk; simpa using this
  have key : ∀ (x : Nat) (hx : x < ids.length), ∃ p, O[ks[x]'(by omega)]? = some p ∧ p.1 = ids[x] := fun x hx => by
    have e := congrArg (fun l => l[x]?) hk
    simp only [List.getElem?_map, List.getElem?_eq_getElem (show x < ks.length by omega), List.getElem?_eq_getElem hx, Option.map_some, Option.some.injEq] at e
    obtain ⟨p, h1, h2⟩ := Option.map_eq_some_iff.1 e
    exact ⟨p, h1, h2⟩
  obtain ⟨p, p1, p2⟩ := key i hi
  obtain ⟨q, q1, q2⟩ := key j hj
  rw [← p2, ← q2]
  exact dist_get h.dist p1 q1 (hs i j (by omega) (by omega) hij)
theorem pw_zip {O : List (Nat × List AV)} (h : (O.map (·.1)).Pairwise fun a b => a ≠ b) : O.Pairwise fun p q => p.1 ≠ q.1 := List.pairwise_map.1 h
theorem idl_get {σ : St} {i : Nat} {c : List AV} (h : σ.objs[i]? = some c) : idl σ.objs.length i = some i := by
  have := (List.getElem?_eq_some_iff.1 h).1
  simp [idl, this]
theorem cut_vec_id {ρ κ : Nat → Option Nat} {i z n : Nat} (h : ρ i = some i) : cutAV ρ κ (.vec i z n) = .vec i z n := by
  simp only [cutAV, h]
  split <;> rfl
section
variable {P : Program} {σ : St}
/-- Some variables hold something else, and each other. -/
theorem ACall.outB {g : FuncId} {args : List AV} {b : AV} (M : List (Nat × List AV)) (hc : ∀ p ∈ M, cutL (idl σ.objs.length) (idl σ.opn.length) p.2 = p.2) (h : ACall P g args σ (fun a σ' => Wk (cutAV (idl σ.objs.length) (idl σ.opn.length) a) b ∧ Holds σ M [] σ')) : ACall P g args σ (fun a σ' => a = b ∧ σ' = σ.puts M) :=
  h.cut fun a σ' ⟨ha, hH⟩ => ⟨σ.puts M, b, puts_len M _, rfl, rfl, hH.opn, fun id c hid => by
    rcases puts_get M σ.objs id c hid with h1 | ⟨h1, h2⟩
    · exact ⟨hH.obj _ h1, .inr (hc _ h1)⟩
    · exact ⟨hH.base id c h1 h2, .inl h1⟩, ha, rfl, rfl⟩
/-- Names, side by side with what they hold. -/
def zipB (f : Nat → Nat) : Nat → List (List AV) → List (Nat × List AV)
  | _, [] => []
  | i, x :: l => (f i, x) :: zipB f (i + 1) l
theorem zipB_get (f : Nat → Nat) : ∀ (l : List (List AV)) (i k : Nat), (zipB f i l)[k]? = (l[k]?).map fun x => (f (i + k), x)
  | [], i, k => by simp [zipB]
  | x :: l, i, 0 => by simp [zipB]
  | x :: l, i, k + 1 => by
    simp only [zipB, List.getElem?_cons_succ]
    rw [zipB_get f l (i + 1) k, show i + 1 + k = i + (k + 1) by omega]
theorem zipB_mem {f : Nat → Nat} {l : List (List AV)} {i : Nat} {p : Nat × List AV} (h : p ∈ zipB f i l) : ∃ k, k < l.length ∧ p.1 = f (i + k) ∧ l[k]? = some p.2 := by
  obtain ⟨k, hk⟩ := List.mem_iff_getElem?.1 h
  rw [zipB_get] at hk
  obtain ⟨x, h1, rfl⟩ := Option.map_eq_some_iff.1 hk
  exact ⟨k, (List.getElem?_eq_some_iff.1 h1).1, rfl, h1⟩
/-- New variables, side by side. -/
theorem Holds.addL {σ0 σ : St} {O : List (Nat × List AV)} {A : List Nat} (h : Holds σ0 O A σ) (L : List (List AV)) : Holds σ0 (zipB (fun i => σ.objs.length + i) 0 L ++ O) A ⟨σ.objs ++ L, σ.opn, σ.gl⟩ := by
  refine ⟨fun i d h1 h2 => ?_, h.opn, by have := h.olen; simp; omega, h.tlen, fun p hp => ?_, ?_, h.tok, h.tdist, h.gl⟩
  · have := h.base i d h1 (fun p hp => h2 p (List.mem_append_right _ hp))
    simp only
    rw [List.getElem?_append_left (List.getElem?_eq_some_iff.1 this).1]
    exact this
  · rcases List.mem_append.1 hp with hp | hp
    · obtain ⟨k, hk, e1, e2⟩ := zipB_mem hp
      simp only [e1, Nat.zero_add]
      rw [List.getElem?_append_right (by omega), Nat.add_sub_cancel_left]
      exact e2
    · have := h.obj p hp
      simp only
      rw [List.getElem?_append_left (List.getElem?_eq_some_iff.1 this).1]
      exact this
  · rw [List.pairwise_append]
    refine ⟨?_, h.dist, fun p hp q hq => ?_⟩
    · rw [List.pairwise_iff_getElem]
      intro i j hi hj hij
      have e1 := List.getElem?_eq_getElem hi
      have e2 := List.getElem?_eq_getElem hj
      rw [zipB_get] at e1 e2
      obtain ⟨x, _, e1⟩ := Option.map_eq_some_iff.1 e1
      obtain ⟨y, _, e2⟩ := Option.map_eq_some_iff.1 e2
      rw [← e1, ← e2]
      show σ.objs.length + (0 + i) ≠ σ.objs.length + (0 + j)
      omega
    · obtain ⟨k, hk, e1, e2⟩ := zipB_mem hp
      have := (List.getElem?_eq_some_iff.1 (h.obj q hq)).1
      rw [e1]
      omega
/-- Cells of several variables, seen as less. -/
inductive WkLL : List (List AV) → List (List AV) → Prop where
  | nil : WkLL [] []
  | cons {a b : List AV} {l m : List (List AV)} (hs : spcl a = false) (h : WkL a b) (t : WkLL l m) : WkLL (a :: l) (b :: m)
theorem Inv.wkoL {w0 : World} {G : Ghost} {w : World} {opn : List Bool} {gl : List (Addr × Value)} : ∀ {L L' : List (List AV)} (_ : WkLL L L') {base : List (List AV)}, Inv w0 G w ⟨base ++ L, opn, gl⟩ → Inv w0 G w ⟨base ++ L', opn, gl⟩
  | _, _, .nil, base, h => h
  | _, _, .cons (a := a) (b := b) (l := l) (m := m) hs hw t, base, h => by
    have h1 := h.wko (id := base.length) (c := a) (c' := b) (by simp) hs hw
    have h2 : (base ++ a :: l).set base.length b = (base ++ [b]) ++ l := by simp
    simp only [h2] at h1
    have h3 := Inv.wkoL t h1
    simpa using h3
theorem ACall.weaken {g : FuncId} {args : List AV} {K K' : AV → St → Prop} (h : ACall P g args σ K) (hk : ∀ a σ', K a σ' → ∃ σ1, (∀ w0 G w, Inv w0 G w σ' → Inv w0 G w σ1) ∧ K' a σ1) : ACall P g args σ K' :=
  ⟨h.1, fun w0 G w vs hI hr => (h.2 w0 G w vs hI hr).mono fun e w' ⟨v, a, σ', G', h1, h2, h3, h4, h5⟩ => by
    obtain ⟨σ1, k1, k2⟩ := hk a σ' h5
    exact ⟨v, a, σ1, G', h1, h2, k1 _ _ _ h3, h4, k2⟩⟩
/-- A new variable that holds others, or none, and more. -/
def NewB {α : Type} (B : (Nat → Nat) → α → List (List AV)) (rest : List AV) (σ : St) : Option α → AV → St → Prop
  | none, a, τ => a = .tup (.nilp :: rest) ∧ τ = σ
  | some c, a, τ => a = .tup (.ref σ.objs.length 0 :: rest) ∧ τ = ⟨σ.objs ++ B (fun i => σ.objs.length + i) c, σ.opn, σ.gl⟩
def NewBE {α : Type} (B : (Nat → Nat) → α → List (List AV)) (rest : List AV) (σ : St) : Option α → AV → St → Prop
  | none, a, τ => a = .tup (.nilp :: rest) ∧ Holds σ [] [] τ
  | some c, a, τ => ∃ f : Nat → Nat, a = .tup (.ref (f 0) 0 :: rest) ∧ (∀ i, i < (B f c).length → σ.objs.length ≤ f i) ∧ Holds σ (zipB f 0 (B f c)) [] τ
theorem ACall.newB {g : FuncId} {args : List AV} {α : Type} {B : (Nat → Nat) → α → List (List AV)} {rest : List AV} {o : Option α} (m : Nat) (hm : ∀ f c, (B f c).length = m) (h0 : 0 < m) (hr : ∀ ρ κ, cutL ρ κ rest = rest)
    (hc : ∀ c ρ κ f g, (∀ i, i < m → ρ (f i) = some (g i)) → WkLL ((B f c).map (cutL ρ κ)) (B g c)) (h : ACall P g args σ (fun a τ => NewBE B rest σ o a τ)) : ACall P g args σ (fun a τ => NewB B rest σ o a τ) := by
  cases o with
  | none => exact ACall.pure (b := .tup (.nilp :: rest)) (h.mono fun a τ ⟨h1, h2⟩ => ⟨by subst h1; simp only [cutAV, cutL, hr]; exact Wk.refl _, h2⟩)
  | some c =>
    refine ACall.weaken (K := fun a τ => ∃ L, WkLL L (B (fun i => σ.objs.length + i) c) ∧ a = .tup (.ref σ.objs.length 0 :: rest) ∧ τ = ⟨σ.objs ++ L, σ.opn, σ.gl⟩) ?_ (fun a τ ⟨L, h1, h2, h3⟩ => ⟨⟨σ.objs ++ B (fun i => σ.objs.length + i) c, σ.opn, σ.gl⟩, fun w0 G w hI => by subst h3; exact hI.wkoL h1, h2, rfl⟩)
    refine h.ren fun a σ' ⟨f, ha, hf, hH⟩ => ?_
    subst ha
    rw [hm] at hf
    have hz : ∀ k, k < m → ∃ x, (B f c)[k]? = some x ∧ (zipB f 0 (B f c))[k]? = some (f k, x) := fun k hk => by
      have hx : (B f c)[k]? = some ((B f c)[k]'(by rw [hm]; exact hk)) := List.getElem?_eq_getElem _
      exact ⟨_, hx, by rw [zipB_get, hx, Nat.zero_add]; rfl⟩
    have hinj : ∀ i j, i < m → j < m → f i = f j → i = j := fun i j hi hj e => by
      obtain ⟨x, _, hx⟩ := hz i hi
      obtain ⟨y, _, hy⟩ := hz j hj
      exact Classical.byContradiction fun hn => dist_get hH.dist hx hy hn e
    let ρ : Nat → Option Nat := fun i => match (List.range m).find? (fun k => decide (f k = i)) with | some k => some (σ.objs.length + k) | none => idl σ.objs.length i
    have hρ : ∀ k, k < m → ρ (f k) = some (σ.objs.length + k) := fun k hk => by
      show (match (List.range m).find? (fun k' => decide (f k' = f k)) with | some k => some (σ.objs.length + k) | none => idl σ.objs.length (f k)) = _
      cases hfd : (List.range m).find? (fun k' => decide (f k' = f k)) with
      | none =>
        have := List.find?_eq_none.1 hfd k (List.mem_range.2 hk)
        simp at this
      | some k' =>
        have h1 := List.find?_some hfd
        have h2 := List.mem_range.1 (List.mem_of_find?_eq_some hfd)
        simp only [decide_eq_true_eq] at h1
        rw [hinj k' k h2 hk h1]
    have hold : ∀ i, (∀ k, k < m → f k ≠ i) → ρ i = idl σ.objs.length i := fun i hi => by
      show (match (List.range m).find? (fun k' => decide (f k' = i)) with | some k => some (σ.objs.length + k) | none => idl σ.objs.length i) = _
      cases hfd : (List.range m).find? (fun k' => decide (f k' = i)) with
      | none => rfl
      | some k' =>
        have h1 := List.find?_some hfd
        have h2 := List.mem_range.1 (List.mem_of_find?_eq_some hfd)
        simp only [decide_eq_true_eq] at h1
        exact absurd h1 (hi k' h2)
    have hcase : ∀ i j, ρ i = some j → (∃ k, k < m ∧ f k = i ∧ j = σ.objs.length + k) ∨ (i = j ∧ j < σ.objs.length) := fun i j h => by
      by_cases hx : ∃ k, k < m ∧ f k = i
      · obtain ⟨k, hk, rfl⟩ := hx
        rw [hρ k hk] at h
        exact .inl ⟨k, hk, rfl, (Option.some.inj h).symm⟩
      · rw [hold i (fun k hk e => hx ⟨k, hk, e⟩)] at h
        exact .inr (idl_lt h)
    have hmap := hc c ρ (idl σ.opn.length) f (fun i => σ.objs.length + i) hρ
    refine ⟨⟨σ.objs ++ (B f c).map (cutL ρ (idl σ.opn.length)), σ.opn, σ.gl⟩, .tup (.ref σ.objs.length 0 :: rest), ρ, idl σ.opn.length, ⟨fun i i' j h1 h2 => ?_, idl_inj _, fun i hi => ?_, fun i hi => by simp [idl, hi], fun i j h => ?_, fun t u h => (idl_lt h).2, Nat.le_refl _, rfl, fun j d hj => ?_, fun t u h hu => ?_⟩, ?_, _, hmap, rfl, rfl⟩
    · rcases hcase i j h1 with ⟨k, hk, e1, e2⟩ | ⟨e1, e2⟩ <;> rcases hcase i' j h2 with ⟨k', hk', e3, e4⟩ | ⟨e3, e4⟩
      · have : k = k' := by omega
        subst this
        rw [← e1, ← e3]
      · omega
      · omega
      · rw [e1, e3]
    · rw [hold i (fun k hk e => by have := hf k hk; omega)]
      simp [idl, hi]
    · simp only [List.length_append, List.length_map, hm]
      rcases hcase i j h with ⟨k, hk, e1, e2⟩ | ⟨e1, e2⟩ <;> omega
    · by_cases hlt : j < σ.objs.length
      · simp only at hj
        rw [List.getElem?_append_left hlt] at hj
        refine ⟨j, d, by rw [hold j (fun k hk e => by have := hf k hk; omega)]; simp [idl, hlt], hH.base j d hj (fun p hp => ?_), .inl ⟨hj, rfl⟩⟩
        obtain ⟨k, hk, e1, e2⟩ := zipB_mem hp
        rw [hm] at hk
        have := hf k hk
        rw [e1, Nat.zero_add]
        omega
      · simp only at hj
        rw [List.getElem?_append_right (by omega)] at hj
        have hk := (List.getElem?_eq_some_iff.1 hj).1
        rw [List.length_map, hm] at hk
        obtain ⟨x, hx, hzx⟩ := hz (j - σ.objs.length) hk
        refine ⟨f (j - σ.objs.length), x, by rw [hρ _ hk]; congr 1; omega, hH.obj _ (List.mem_of_getElem? hzx), .inr ?_⟩
        rw [List.getElem?_map, hx] at hj
        exact (Option.some.inj hj).symm
    · obtain ⟨rfl, _⟩ := idl_lt h
      exact hH.opn t hu
    · simp only [cutAV, cutL, hr, hρ 0 h0, Nat.add_zero]
      exact Wk.refl _
theorem NewBE.some {α : Type} {B : (Nat → Nat) → α → List (List AV)} {rest : List AV} {σ τ : St} {c : α} (f : Nat → Nat) (h1 : ∀ i, i < (B f c).length → σ.objs.length ≤ f i) (h2 : Holds σ (zipB f 0 (B f c)) [] τ) : NewBE B rest σ (some c) (.tup (.ref (f 0) 0 :: rest)) τ := ⟨f, rfl, h1, h2⟩
theorem NewBE.none {α : Type} {B : (Nat → Nat) → α → List (List AV)} {rest : List AV} {σ τ : St} (h : Holds σ [] [] τ) : NewBE B rest σ none (.tup (.nilp :: rest)) τ := ⟨rfl, h⟩
variable {σ0 : St} {O : List (Nat × List AV)} {A' : List Nat} {fr : Nat → AV}
theorem h_callnb0 (hH : Holds σ0 O A' σ) {α : Type} {B : (Nat → Nat) → α → List (List AV)} {rest : List AV} {z : Option α} (hz : z = none) {o : Oper} {f : Operand} {xs : List Operand} {gg : FuncId} {first cap args : List AV} (hc : callOf o = some (f, xs)) (hf : aeval fr f = .fn (.func gg) first cap) (hargs : WkL (first ++ xs.map (aeval fr) ++ cap) args)
    (hcall : ACall P gg args σ (fun a τ => NewB B rest σ z a τ)) : ∃ (_ : Nat) (τ : St), OpS P o fr σ (fun a' τ' => a' = .tup (.nilp :: rest) ∧ τ' = τ) ∧ Holds σ0 O A' τ := by
  subst hz; exact ⟨0, σ, OpS.of_call hc hf hargs hcall, hH⟩
theorem h_callnb1 (hH : Holds σ0 O A' σ) {α : Type} {B : (Nat → Nat) → α → List (List AV)} {rest : List AV} {z : Option α} {c : α} (hz : z = some c) {o : Oper} {f : Operand} {xs : List Operand} {gg : FuncId} {first cap args : List AV} (hc : callOf o = some (f, xs)) (hf : aeval fr f = .fn (.func gg) first cap) (hargs : WkL (first ++ xs.map (aeval fr) ++ cap) args)
    (hcall : ACall P gg args σ (fun a τ => NewB B rest σ z a τ)) : ∃ (id : Nat) (τ : St), OpS P o fr σ (fun a' τ' => a' = .tup (.ref id 0 :: rest) ∧ τ' = τ) ∧ (Holds σ0 (zipB (fun i => id + i) 0 (B (fun i => id + i) c) ++ O) A' τ ∧ σ0.objs.length ≤ id) := by
  subst hz; exact ⟨_, _, OpS.of_call hc hf hargs hcall, hH.addL _, hH.olen⟩
end
/-! ### a field that is a variable comes to be one that never changes -/
theorem Inv.reobj {w0 : World} {G : Ghost} {w : World} {σ : St} (h : Inv w0 G w σ) {id : Nat} {c c' : List AV} (hc : σ.objs[id]? = some c) (hsp : spcl c = false) (hne : c ≠ []) (hne' : c' ≠ []) (hr : ∀ b T vs, G.loc id = some b → w.heap[b]? = some (.cells vs T (0, 0)) → RelP G vs c → RelP G vs c') : Inv w0 G w ⟨σ.objs.set id c', σ.opn, σ.gl⟩ := by
  have hlt := (List.getElem?_eq_some_iff.1 hc).1
  obtain ⟨b0, T0, vs0, f1, f2, f3, f4, f5, f6⟩ := h.loc id c hc hne hsp
  have hr0 := hr b0 T0 vs0 f1 f3 f4
  have hat : ∀ (i : Nat) (d : List AV), (σ.objs.set id c')[i]? = some d → (i = id ∧ d = c') ∨ (i ≠ id ∧ σ.objs[i]? = some d) := by
    intro i d hd
    by_cases he : id = i
    · subst he
      rw [List.getElem?_set_self hlt] at hd
      exact .inl ⟨rfl, (Option.some.inj hd).symm⟩
    · rw [List.getElem?_set_ne he] at hd
      exact .inr ⟨Ne.symm he, hd⟩
  have hsome : ∀ (i : Nat) (d : List AV), (σ.objs.set id c')[i]? = some d → d ≠ [] → ∃ d', σ.objs[i]? = some d' ∧ d' ≠ [] := by
    intro i d hd hn
    rcases hat i d hd with ⟨rfl, rfl⟩ | ⟨_, e⟩
    · exact ⟨c, hc, hne⟩
    · exact ⟨d, e, hn⟩
  refine ⟨h.below, h.fz, fun i d hd hn hs => ?_, fun i b o d hl' hd hn => ?_, h.loclt, fun i b hl' => by simpa using h.locdom i b hl', fun i j b d e hi hj hd he hn hn' => ?_, fun t b top en ho ht => ?_, h.tokdom, h.tokinj, h.nt, h.lit, h.gl, h.sp_to (.refl G) (fun _ _ _ h => h) (fun i a h1 h2 => ?_)⟩
  · rcases hat i d hd with ⟨rfl, rfl⟩ | ⟨_, e⟩
    · exact ⟨b0, T0, vs0, f1, f2, f3, hr0, f5, f6⟩
    · exact h.loc i d e hn hs
  · obtain ⟨d', a1, a2⟩ := hsome i d hd hn
    exact h.locfz i b o d' hl' a1 a2
  · obtain ⟨d', a1, a2⟩ := hsome i d hd hn
    obtain ⟨e', b1, b2⟩ := hsome j e he hn'
    exact h.locinj i j b d' e' hi hj a1 b1 a2 b2
  · obtain ⟨e1, e2, e3, e4⟩ := h.tok t b top en ho ht
    refine ⟨e1, e2, e3, fun i hi => ?_⟩
    have h0 := e4 i hi
    by_cases he : id = i
    · subst he; rw [hc] at h0; exact absurd (Option.some.inj h0) hne
    · simp only; rw [List.getElem?_set_ne he]; exact h0
  · rcases hat i [a] h1 with ⟨rfl, e⟩ | ⟨_, e⟩
    · have hx := hr0.nsp
      rw [← e] at hx
      simp only [spcl] at hx
      rw [hx] at h2; cases h2
    · exact e
theorem RelL.set_at {G : Ghost} {vs : List Value} {cs : List AV} (h : RelL G vs cs) {j : Nat} {v : Value} {x : AV} (hv : vs[j]? = some v) (hx : Rel G v x) : RelL G vs (cs.set j x) := by
  have := h.set j hx
  obtain ⟨hlt, hg⟩ := List.getElem?_eq_some_iff.1 hv
  rwa [← hg, List.set_getElem_self] at this
theorem Inv.frzO {w0 : World} {G : Ghost} {w : World} {σ : St} (h : Inv w0 G w σ) {idm id j sz n : Nat} {c es : List AV} (hm : σ.objs[idm]? = some c) (hspm : spcl c = false) (hj : c[j]? = some (.vec id sz n)) (hc : σ.objs[id]? = some (flat es)) (hsp : spcl (flat es) = false) (hne : idm ≠ id) (hn : n = es.length) (hz : ∀ e ∈ es, e.cells.length = sz) (hs : sz ≠ 0) :
    ∃ G', G.Le G' ∧ Inv w0 G' w ⟨(σ.objs.set id []).set idm (c.set j (.sl (.own σ.opn.length) sz es)), σ.opn ++ [true], σ.gl⟩ := by
  have hcn : c ≠ [] := fun h0 => by subst h0; simp at hj
  have hjl : j < c.length := (List.getElem?_eq_some_iff.1 hj).1
  obtain ⟨b, T, vs, k1, k2, k3, k4, k5, k6⟩ := h.loc idm c hm hcn hspm
  obtain ⟨v, hv, hrv⟩ := k4.rel.get hj
  obtain ⟨G', hle, hI, hv'⟩ := frozen_rel h hrv hc hsp hn hz hs
  refine ⟨G', hle, ?_⟩
  have hm' : (σ.objs.set id [])[idm]? = some c := by rw [List.getElem?_set_ne (Ne.symm hne)]; exact hm
  refine hI.reobj (id := idm) hm' hspm hcn (fun h0 => hcn (by have := congrArg List.length h0; simp at this; exact this)) (fun b' T' vs' l1 l2 l3 => ?_)
  have hb : b' = b := by have := hle.loc _ _ k1; rw [this] at l1; exact (Option.some.inj l1).symm
  subst hb
  rw [k3] at l2
  injection l2 with l2
  injection l2 with l2 l4
  subst l2
  exact ⟨by rw [List.length_set]; exact l3.le, by rw [List.length_set]; exact l3.rel.set_at hv hv'⟩
section
variable {P : Program} {Ty : TypeId → Option TI} {n : Nat} {σ σ0 : St} {O : List (Nat × List AV)} {A : List Nat} {E : TypeId} {α : Type} {e : α → AV} {sz : Nat}
theorem AWP.frzF {cd : Code} {Q : AExit → (Nat → AV) → St → Prop} {l : List (Nat × AV)} (hH : Holds σ0 O A σ) (km ks j : Nat) {idm id m : Nat} {c : List AV} {x : List α} (hkm : O[km]? = some (idm, c)) (hks : O[ks]? = some (id, cL e x)) (hnw : σ0.objs.length ≤ id) (hne : km ≠ ks) (he : Enc Ty E sz e) (hj : c[j]? = some (.vec id sz m)) (hm : x.length = m)
    (h : ∀ tk τ, Holds σ0 ((O.set km (idm, c.set j (eT tk sz e x))).eraseIdx ks) (tk :: A) τ → AWP P n cd Q (Va.fm l) τ) (hsp : spcl c = false := by first | rfl | exact spcl_cL (by assumption) _) : AWP P n cd Q (Va.fm l) σ := fun w0 G a w hS => by
  have hid : idm ≠ id := dist_get hH.dist hkm hks hne
  obtain ⟨G', hle, hI⟩ := hS.inv.frzO (es := x.map e) (hH.at_ km hkm) hsp hj (hH.at_ ks hks) (spcl_cL he x) hid (by rw [List.length_map]; exact hm.symm) (fun y hy => by obtain ⟨z, _, rfl⟩ := List.mem_map.1 hy; exact he.len z) he.pos
  have h1 := hH.put km hkm (c.set j (eT σ.opn.length sz e x))
  have h2 := (h1.gone ks (by rw [List.getElem?_set_ne hne]; exact hks) hnw []).more
  simp only at h2
  have e1 : (σ.objs.set id []).set idm (c.set j (.sl (.own σ.opn.length) sz (x.map e))) = (σ.objs.set idm (c.set j (eT σ.opn.length sz e x))).set id [] := by
    rw [List.set_comm _ _ (Ne.symm hid)]; rfl
  rw [e1] at hI
  refine wp_mono (h _ _ h2 w0 G' a w ⟨hI, hS.frm.mono hle, hS.size, hS.defers⟩) ?_
  rintro ex a' w' ⟨ae, fr', σ', G2, k1, k2, k3, k4⟩
  exact ⟨ae, fr', σ', G2, k1, hle.trans k2, k3, k4⟩
end
/-! ### make of things that are not all noughts -/
theorem wk_slw {t : Tok} {sz : Nat} {es fs : List AV} (hl : es.length = fs.length) (hc : ∀ (i : Nat) (e f : AV), es[i]? = some e → fs[i]? = some f → WkL e.cells f.cells) : Wk (.sl t sz es) (.sl t sz fs) := by
  have hlen : ∀ {a b : List AV}, WkL a b → a.length = b.length := by
    intro a b h
    induction h with
    | nil => rfl
    | cons _ _ ih => simp [ih]
  intro G v h
  cases h with
  | sl b o c _ _ _ val h1 hm hz hf hr ht =>
    have hat : ∀ (i : Nat) (f : AV) (j : Nat) (a : AV), fs[i]? = some f → f.cells[j]? = some a → ∃ e a', es[i]? = some e ∧ e.cells[j]? = some a' ∧ Wk a' a := by
      intro i f j a hi hj
      have hi' : i < es.length := by rw [hl]; exact (List.getElem?_eq_some_iff.1 hi).1
      have he := List.getElem?_eq_getElem hi'
      have hw := hc i _ f he hi
      have key : ∀ {x y : List AV}, WkL x y → ∀ (j : Nat) (a : AV), y[j]? = some a → ∃ a', x[j]? = some a' ∧ Wk a' a := by
        intro x y h
        induction h with
        | nil => intro j a h; simp at h
        | cons hh _ ih =>
          intro j a h
          cases j with
          | zero => simp at h; subst h; exact ⟨_, rfl, hh⟩
          | succ j => obtain ⟨a', h1, h2⟩ := ih j a (by simpa using h); exact ⟨a', by simpa using h1, h2⟩
      obtain ⟨a', h1, h2⟩ := key hw j a hj
      exact ⟨_, a', he, h1, h2⟩
    rw [hl]
    refine .sl b o c _ _ _ val (by rw [← hl]; exact h1) hm (fun f hf' => ?_) (fun i f j a hi hj => ?_) (fun i f j a hi hj => ?_) (by rw [← hl]; exact ht)
    · obtain ⟨i, hi⟩ := List.mem_iff_getElem?.1 hf'
      have hi' : i < es.length := by rw [hl]; exact (List.getElem?_eq_some_iff.1 hi).1
      rw [← hlen (hc i _ f (List.getElem?_eq_getElem hi') hi)]
      exact hz _ (List.getElem_mem hi')
    · obtain ⟨e, a', e1, e2, e3⟩ := hat i f j a hi hj
      exact hf i e j a' e1 e2
    · obtain ⟨e, a', e1, e2, e3⟩ := hat i f j a hi hj
      exact e3 G _ (hr i e j a' e1 e2)
  | sl0 A c _ _ hm ht =>
    have : fs = [] := List.eq_nil_of_length_eq_zero hl.symm
    subst this
    exact .sl0 A c _ _ hm ht
section
variable {P : Program} {Ty : TypeId → Option TI} {σ σ0 : St} {O : List (Nat × List AV)} {A : List Nat} {fr : Nat → AV} {d : Option Tmp} {ty : TypeId} {pos : String} {af : Array Edge} {g : Option (Nat × Bool)} {ox oy : Operand} {T E : TypeId} {α : Type} {e : α → AV} {sz : Nat}
theorem h_makew (hT : TyOk P Ty) (hH : Holds σ0 O A σ) {i : TI} {z : α} {x : List α} {m : Int} {k k' : IntKind} (h : mkS i.bytes m z = some x) (hd : tdOf Ty T = .slice E) (hi : Ty E = some i) (hsz : i.sz = sz) (he : Enc Ty E sz e) (hz : WkL i.zero.cells (e z).cells) (hx : aeval fr ox = .int k m) (hy : aeval fr oy = .int k' m) :
    ∃ t τ, OpS P ⟨d, .makeSlice T ox oy, ty, pos, af, g⟩ fr σ (fun a' τ' => a' = (fun t => eT t sz e x) t ∧ τ' = τ) ∧ Holds σ0 O (t :: A) τ := by
  unfold mkS at h
  split at h
  case isFalse => cases h
  rename_i hc
  cases h
  refine ⟨_, _, OpS.of_aop hT (mu := false) rfl (aeval fr) (fun x _ => Wk.refl _) (a := .sl (.own σ.opn.length) i.sz (List.replicate m.toNat i.zero)) (σ' := σ.more) ?_ ?_, hH.more⟩
  · simp only [aop, hx, hy, amake, hd, hi]
    rw [if_pos ⟨hc.1, Int.le_refl _, hc.2.1, hc.2.2⟩]
    rfl
  · rw [hsz]
    simp only [eT, List.map_replicate]
    refine wk_slw (by simp) (fun j a b h1 h2 => ?_)
    have h1' := (List.mem_replicate.1 (List.mem_of_getElem? h1)).2
    have h2' := (List.mem_replicate.1 (List.mem_of_getElem? h2)).2
    subst h1'; subst h2'
    exact hz
theorem WkL.flat {a b : AV} (h : WkL a.cells b.cells) : ∀ n, WkL (flat (List.replicate n a)) (flat (List.replicate n b))
  | 0 => .nil
  | n + 1 => by
    simp only [List.replicate_succ, flat_cons]
    exact h.append (WkL.flat h n)
end
end Go.Va
namespace Go.Va
open Go Go.RowKit
set_option linter.unusedVariables false
set_option linter.unusedSimpArgs false

theorem Holds.perm {σ0 σ : St} {O O' : List (Nat × List AV)} {A : List Nat} (h : Holds σ0 O A σ) (hp : O.Perm O') : Holds σ0 O' A σ :=
  ⟨fun id c h1 h2 => h.base id c h1 (fun p hm => h2 p (hp.mem_iff.1 hm)), h.opn, h.olen, h.tlen, fun p hm => h.obj p (hp.mem_iff.2 hm), (hp.pairwise_iff (fun h => Ne.symm h)).1 h.dist, h.tok, h.tdist, h.gl⟩
/-- What must be done of the first m comes before all others. -/
def chkFirst (B : Array Nat) (I : List Nat) (m n : Nat) : Bool := (List.range n).all fun k => decide (k < m) || I.all fun i => befB B k i
def chkAt (B : Array Nat) (S : List Nat) (i : Nat) : Bool := S.all fun s => s == i || (if s < i then befB B i s else befB B s i)
/-- One of a first phase: a value alone; one read; something made; something turned. -/
inductive PhK where
  | p
  | r
  | a (c : List AV)
  | t (O : List (Nat × List AV))
abbrev Ph := PhK × (Nat → AV)
def Ph.val (p : Ph) (id : Nat) : AV := match p.1 with
  | .a _ => p.2 id
  | _ => p.2 0
section
variable (P : Program) (σ0 : St) (A : List Nat)
/-- A step of a first phase. -/
def PhStep (ops : Array Oper) (S : List Nat) (i : Nat) (o : Oper) (p : Ph) (O : List (Nat × List AV)) (fr : Nat → AV) : Prop := match p.1 with
  | .a c => ∀ σ O', Holds σ0 O' A σ → ∃ id τ, AStep P ops o fr σ (p.2 id) τ ∧ (Holds σ0 ((id, c) :: O') A τ ∧ σ0.objs.length ≤ id)
  | .p => ∀ τ, AStep P ops o fr τ (p.2 0) τ
  | .r => chkAt (Region.before ops) S i = true ∧ ∀ X σ, Holds σ0 (O ++ X) A σ → AStep P ops o fr σ (p.2 0) σ
  | .t O' => S.contains i = true ∧ chkAt (Region.before ops) S i = true ∧ ∀ X σ, Holds σ0 (O ++ X) A σ → ∃ τ, AStep P ops o fr σ (p.2 0) τ ∧ Holds σ0 (O' ++ X) A τ
def PhK.nxt (O : List (Nat × List AV)) : PhK → List (Nat × List AV)
  | .t O' => O'
  | _ => O
def wpdU (ops : Array Oper) (S : List Nat) (K : (Nat → AV) → St → Prop) : Nat → List Oper → List Ph → List (Nat × List AV) → List (Nat × List AV) → (Nat → AV) → Prop
  | i, rest, [], acc, O, fr => ∀ σ, Holds σ0 (acc ++ O) A σ → wpdS P ops S K i rest fr σ
  | _, [], _ :: _, _, _, _ => False
  | i, o :: rest, p :: ps, acc, O, fr => PhStep P σ0 A ops S i o p O fr ∧ match p.1 with
    | .a c => ∀ id, σ0.objs.length ≤ id → wpdU ops S K (i + 1) rest ps ((id, c) :: acc) O (putO fr o.dst (p.2 id))
    | .t O' => wpdU ops S K (i + 1) rest ps acc O' (putO fr o.dst (p.2 0))
    | _ => wpdU ops S K (i + 1) rest ps acc O (putO fr o.dst (p.2 0))
end
section
variable {P : Program} {w0 : World} {G : Ghost} {n : Nat} {σ0 : St} {O : List (Nat × List AV)} {A : List Nat} {ops : Array Oper} {S : List Nat}
def aasU (ps : List Ph) (ids : Nat → Nat) (k : Nat) : AV := match ps[k]? with
  | some p => p.val (ids k)
  | none => .junk
def isU (ps : List Ph) (k : Nat) : Bool := match ps[k]? with
  | some (.a _, _) => true
  | _ => false
def isT (ps : List Ph) (k : Nat) : Bool := match ps[k]? with
  | some (.t _, _) => true
  | _ => false
def isI (ps : List Ph) (k : Nat) : Bool := match ps[k]? with
  | some (.p, _) => false
  | some _ => true
  | none => false
def csU (ps : List Ph) (k : Nat) : List AV := match ps[k]? with
  | some (.a c, _) => c
  | _ => []
def OsU (ps : List Ph) (O : List (Nat × List AV)) : Nat → List (Nat × List AV)
  | 0 => O
  | i + 1 => match ps[i]? with
    | some (.t O', _) => O'
    | _ => OsU ps O i
theorem OsU_step {ps : List Ph} {i : Nat} (h : isT ps i = false) : OsU ps O (i + 1) = OsU ps O i := by
  unfold isT at h
  simp only [OsU]
  split
  · rename_i h2; rw [h2] at h; cases h
  · rfl
theorem OsU_le {ps : List Ph} {q : Nat} : ∀ d, (∀ k, q ≤ k → k < q + d → isT ps k = false) → OsU ps O (q + d) = OsU ps O q
  | 0, _ => rfl
  | d + 1, h => by
    rw [← Nat.add_assoc, OsU_step (h (q + d) (by omega) (by omega))]
    exact OsU_le d fun k h1 h2 => h k h1 (by omega)
theorem OsU_eq {ps : List Ph} {q i : Nat} (h : ∀ k, isT ps k = true → (k < q ↔ k < i)) : OsU ps O q = OsU ps O i := by
  have key : ∀ q i, q ≤ i → (∀ k, isT ps k = true → (k < q ↔ k < i)) → OsU ps O q = OsU ps O i := fun q i hqi h => by
    obtain ⟨d, rfl⟩ := Nat.le.dest hqi
    refine (OsU_le d fun k h1 h2 => ?_).symm
    cases hk : isT ps k with
    | false => rfl
    | true => have := (h k hk).2 h2; omega
  rcases Nat.le_total q i with h1 | h1
  · exact key q i h1 h
  · exact (key i q h1 fun k hk => (h k hk).symm).symm
def accU (ps : List Ph) (ids : Nat → Nat) : Nat → List (Nat × List AV)
  | 0 => []
  | i + 1 => if isU ps i then (ids i, csU ps i) :: accU ps ids i else accU ps ids i
def lstU (ps : List Ph) : Nat → List Nat
  | 0 => []
  | i + 1 => if isU ps i then i :: lstU ps i else lstU ps i
theorem accU_eq (ps : List Ph) (ids : Nat → Nat) : ∀ i, accU ps ids i = (lstU ps i).map fun u => (ids u, csU ps u)
  | 0 => rfl
  | i + 1 => by
    simp only [accU, lstU]
    split
    · rw [List.map_cons, accU_eq ps ids i]
    · exact accU_eq ps ids i
theorem mem_lstU (ps : List Ph) : ∀ i k, k ∈ lstU ps i ↔ k < i ∧ isU ps k = true
  | 0, k => by simp [lstU]
  | i + 1, k => by
    simp only [lstU]
    split
    · rename_i h
      rw [List.mem_cons, mem_lstU ps i k]
      constructor
      · rintro (rfl | h1)
        · exact ⟨by omega, h⟩
        · exact ⟨by omega, h1.2⟩
      · rintro ⟨h1, h2⟩
        by_cases e : k = i
        · exact .inl e
        · exact .inr ⟨by omega, h2⟩
    · rename_i h
      rw [mem_lstU ps i k]
      constructor
      · exact fun h1 => ⟨by omega, h1.2⟩
      · rintro ⟨h1, h2⟩
        have e : k ≠ i := fun e => h (e ▸ h2)
        exact ⟨by omega, h2⟩
theorem nodup_lstU (ps : List Ph) : ∀ i, (lstU ps i).Nodup
  | 0 => List.nodup_nil
  | i + 1 => by
    simp only [lstU]
    split
    · exact List.nodup_cons.2 ⟨fun h => by have := ((mem_lstU ps i i).1 h).1; omega, nodup_lstU ps i⟩
    · exact nodup_lstU ps i
/-- What the printed steps say, for all names at once. -/
theorem wpdU_steps {K : (Nat → AV) → St → Prop} (fr0 : Nat → AV) (ps : List Ph) (hm : ps.length ≤ ops.size) (ids : Nat → Nat) (hid : ∀ k, σ0.objs.length ≤ ids k) : ∀ (d i : Nat), i + d = ps.length → wpdU P σ0 A ops S K i (ops.toList.drop i) (ps.drop i) (accU ps ids i) (OsU ps O i) (frT ops fr0 (aasU ps ids) i) →
    (∀ (k : Nat) (o : Oper) (p : Ph), i ≤ k → ops[k]? = some o → ps[k]? = some p → PhStep P σ0 A ops S k o p (OsU ps O k) (frT ops fr0 (aasU ps ids) k)) ∧
      ∀ σ, Holds σ0 (accU ps ids ps.length ++ OsU ps O ps.length) A σ → wpdS P ops S K ps.length (ops.toList.drop ps.length) (frT ops fr0 (aasU ps ids) ps.length) σ
  | 0, i, hi, h => by
    have hi' : i = ps.length := by omega
    subst hi'
    rw [List.drop_of_length_le (Nat.le_refl _)] at h
    refine ⟨fun k o p hk _ hp => by have := (List.getElem?_eq_some_iff.1 hp).1; omega, fun σ hσ => ?_⟩
    unfold wpdU at h
    exact h σ hσ
  | d + 1, i, hi, h => by
    have hlt : i < ps.length := by omega
    have hlo : i < ops.size := by omega
    rw [List.drop_eq_getElem_cons hlt, List.drop_eq_getElem_cons (by simpa using hlo)] at h
    simp only [Array.getElem_toList] at h
    have hd : dstAt ops i = ops[i].dst := by simp [dstAt, Array.getElem?_eq_getElem hlo]
    have hp : ps[i]? = some ps[i] := List.getElem?_eq_getElem hlt
    unfold wpdU at h
    obtain ⟨h1, h2⟩ := h
    have key : wpdU P σ0 A ops S K (i + 1) (ops.toList.drop (i + 1)) (ps.drop (i + 1)) (accU ps ids (i + 1)) (OsU ps O (i + 1)) (frT ops fr0 (aasU ps ids) (i + 1)) := by
      simp only [frT, hd]
      generalize hpi : ps[i] = p at h2
      rw [hpi] at hp
      obtain ⟨k, v⟩ := p
      cases k with
      | a c =>
        have e1 : isU ps i = true := by simp [isU, hp]
        have e2 : csU ps i = c := by simp [csU, hp]
        have e3 : aasU ps ids i = v (ids i) := by simp [aasU, hp, Ph.val]
        have e4 : OsU ps O (i + 1) = OsU ps O i := OsU_step (by simp [isT, hp])
        simp only [accU, e1, if_true, e2, e3, e4]
        exact h2 (ids i) (hid i)
      | p =>
        have e1 : isU ps i = false := by simp [isU, hp]
        have e3 : aasU ps ids i = v 0 := by simp [aasU, hp, Ph.val]
        have e4 : OsU ps O (i + 1) = OsU ps O i := OsU_step (by simp [isT, hp])
        simp only [accU, e1, e3, e4]
        exact h2
      | r =>
        have e1 : isU ps i = false := by simp [isU, hp]
        have e3 : aasU ps ids i = v 0 := by simp [aasU, hp, Ph.val]
        have e4 : OsU ps O (i + 1) = OsU ps O i := OsU_step (by simp [isT, hp])
        simp only [accU, e1, e3, e4]
        exact h2
      | t O' =>
        have e1 : isU ps i = false := by simp [isU, hp]
        have e3 : aasU ps ids i = v 0 := by simp [aasU, hp, Ph.val]
        have e4 : OsU ps O (i + 1) = O' := by simp [OsU, hp]
        simp only [accU, e1, e3, e4]
        exact h2
    obtain ⟨k1, k2⟩ := wpdU_steps fr0 ps hm ids hid d (i + 1) (by omega) key
    refine ⟨fun k o p hk ho hpk => ?_, k2⟩
    by_cases hki : k = i
    · subst hki
      rw [Array.getElem?_eq_getElem hlo] at ho
      cases ho
      rw [hp] at hpk
      cases hpk
      exact h1
    · exact k1 k o p (by omega) ho hpk

theorem frL_congr (fr0 : Nat → AV) {aas aas' : Nat → AV} {listed : Array Bool} (h : ∀ k, Lst listed k → aas k = aas' k) : frL ops fr0 aas listed = frL ops fr0 aas' listed := by
  funext t
  unfold frL
  cases wOf ops t with
  | none => rfl
  | some k =>
    simp only []
    split
    · rename_i hk; exact h k hk
    · rfl
theorem ClosedL.set {listed : Array Bool} (hc : ClosedL ops listed) {i : Nat} (hi : i ∈ Region.ready .any ops listed) : ClosedL ops (listed.setIfInBounds i true) := by
  obtain ⟨h0, o, ho, hall⟩ := mem_ready.1 hi
  intro k o' ho' hk e he hb
  by_cases hki : i = k
  · subst hki
    rw [ho] at ho'
    cases ho'
    exact getD_set_true (hall e he hb)
  · unfold Lst at hk
    rw [getD_set_ne false hki] at hk
    exact getD_set_true (hc k o' ho' hk e he hb)
theorem left_set {listed : Array Bool} {i : Nat} (hi : i < ops.size) (hl : listed.size = ops.size) (hn : ¬ Lst listed i) : ((List.range ops.size).filter fun k => !(listed.setIfInBounds i true).getD k false).length < ((List.range ops.size).filter fun k => !listed.getD k false).length := by
  refine filter_lt (fun x _ hx => ?_) ⟨i, List.mem_range.2 hi, by unfold Lst at hn; simpa using hn, by simp [hl, hi]⟩
  by_cases hxi : i = x
  · subst hxi; simp [hl, hi] at hx
  · rw [getD_set_ne false hxi] at hx; exact hx
theorem lst_set {listed : Array Bool} {i k : Nat} (hi : i < ops.size) (hl : listed.size = ops.size) : Lst (listed.setIfInBounds i true) k ↔ k = i ∨ Lst listed k := by
  unfold Lst
  by_cases h : i = k
  · subst h; simp [hl, hi]
  · rw [getD_set_ne false h]
    constructor
    · exact .inr
    · rintro (e | h1)
      · exact absurd e.symm h
      · exact h1

/-- None is ready: all are listed. -/
theorem ready_nil (c5 : chkEdges ops = true) {listed : Array Bool} (hl : listed.size = ops.size) (hr : Region.ready .any ops listed = []) : ∀ k, k < ops.size → Lst listed k := by
  have hedge : ∀ (k : Nat) (o : Oper), ops[k]? = some o → ∀ e ∈ o.after, Region.binds .any e = true → e.on < k := by
    intro k o ho e he hb
    unfold chkEdges at c5
    rw [List.all_eq_true] at c5
    have h1 := c5 k (List.mem_range.2 (Array.getElem?_eq_some_iff.1 ho).1)
    rw [ho] at h1
    simp only [List.all_eq_true] at h1
    have h2 := h1 e (Array.mem_toList_iff.2 he)
    simpa [hb] using h2
  intro k
  induction k using Nat.strongRecOn with
  | _ k ih =>
    intro hk
    cases hlk : listed.getD k false with
    | true => exact hlk
    | false =>
      have : k ∈ Region.ready .any ops listed := by
        refine mem_ready.2 ⟨?_, ops[k], Array.getElem?_eq_getElem hk, fun e he hb => ?_⟩
        · have : k < listed.size := by omega
          simpa [this] using hlk
        · have hlt := hedge k _ (Array.getElem?_eq_getElem hk) e he hb
          exact ih e.on hlt (by omega)
      rw [hr] at this
      cases this
/-- The rest of a region, once the first m are listed. -/
theorem draw_from (hchk : drawChk ops S = true) (R : Nat → Prop) {Q : Exit → Act → World → Prop} (hdst : ∀ (j : Nat) (o : Oper), ops[j]? = some o → dstOk n o.dst) (fr0 : Nat → AV) (aas : Nat → AV) (σs : Nat → St)
    (hin : ∀ (i j : Nat) (o : Oper), R i → ops[i]? = some o → S[j]? = some i → AStep P ops o (frT ops fr0 aas i) (σs j) (aas i) (σs (j + 1)))
    (hout : ∀ (i : Nat) (o : Oper), R i → ops[i]? = some o → i ∉ S → ∀ j ∈ win ops S i, AStep P ops o (frT ops fr0 aas i) (σs j) (aas i) (σs j))
    (hQ : ∀ G' a' w', G.Le G' → Sim w0 G' n a' w' (frT ops fr0 aas ops.size) (σs S.length) → Q .normal a' w') :
    ∀ (fuel : Nat) (listed : Array Bool) (G' : Ghost) (a : Act) (w : World), ((List.range ops.size).filter fun k => !listed.getD k false).length ≤ fuel → listed.size = ops.size → ClosedL ops listed → (∀ k, ¬ R k → Lst listed k) → G.Le G' →
      Sim w0 G' n a w (frL ops fr0 aas listed) (σs (stg listed S)) → wpAny P .any ops Q fuel listed a w := by
  simp only [drawChk, Bool.and_eq_true] at hchk
  obtain ⟨⟨⟨⟨c1, c2⟩, c3⟩, c4⟩, c5⟩ := hchk
  have hend : ∀ (listed : Array Bool) (G' : Ghost) (a : Act) (w : World), listed.size = ops.size → ClosedL ops listed → G.Le G' → Sim w0 G' n a w (frL ops fr0 aas listed) (σs (stg listed S)) → Region.ready .any ops listed = [] → Q .normal a w := by
    intro listed G' a w hl hc hG hS hr
    have hall := ready_nil c5 hl hr
    have e1 : frL ops fr0 aas listed = frT ops fr0 aas ops.size := by
      funext t
      rw [frT_eq c3 fr0 aas t _ (Nat.le_refl _)]
      unfold frL
      cases hw : wOf ops t with
      | none => rfl
      | some k =>
        have hk := (wOf_dst hw).1
        simp only []
        rw [if_pos (show listed.getD k false = true from hall k hk), if_pos hk]
    have e2 : stg listed S = S.length := by
      obtain ⟨_, h2, h3⟩ := stg_spec c1 hc c4
      rcases Nat.lt_or_ge (stg listed S) S.length with hlt | hge
      · have hm : S[stg listed S] ∈ S.drop (stg listed S) := by
          rw [List.drop_eq_getElem_cons hlt]; exact List.mem_cons_self
        exact absurd (hall _ (chkS_mem c4 _ (List.getElem_mem hlt))) (h2 _ hm)
      · omega
    rw [e1, e2] at hS
    exact hQ G' a w hG hS
  intro fuel
  induction fuel with
  | zero =>
    intro listed G' a w hf hl hc hlow hG hS
    have hr : Region.ready .any ops listed = [] := by
      apply List.eq_nil_iff_forall_not_mem.2
      intro i hi
      have hn := ready_not hi
      obtain ⟨_, o, ho, _⟩ := mem_ready.1 hi
      have hilt : i < ops.size := (Array.getElem?_eq_some_iff.1 ho).1
      have : i ∈ (List.range ops.size).filter fun k => !listed.getD k false := by
        rw [List.mem_filter]
        exact ⟨List.mem_range.2 hilt, by unfold Lst at hn; simpa using hn⟩
      have := List.length_pos_of_mem this
      omega
    exact ⟨hr, hend listed G' a w hl hc hG hS hr⟩
  | succ fuel ih =>
    intro listed G' a w hf hl hc hlow hG hS
    refine ⟨fun hr => hend listed G' a w hl hc hG hS hr, fun i hi => ?_⟩
    obtain ⟨h0, o, ho, hall⟩ := mem_ready.1 hi
    have hilt : i < ops.size := (Array.getElem?_eq_some_iff.1 ho).1
    have hlk := frL_looks c1 c2 c3 fr0 aas hc ho hi
    have hmi : R i := Classical.byContradiction fun h => ready_not hi (hlow i h)
    have hstep : AStep P ops o (frL ops fr0 aas listed) (σs (stg listed S)) (aas i) (σs (stg (listed.setIfInBounds i true) S)) := by
      by_cases hiS : i ∈ S
      · obtain ⟨k1, k2⟩ := stg_in c1 hc hl hi c4 hiS
        rw [k2]
        exact (hin i _ o hmi ho k1).congr (fun t ht => (hlk t ht).symm)
      · rw [stg_notin hiS]
        exact (hout i o hmi ho hiS _ (win_mem c1 hc c4 hi)).congr (fun t ht => (hlk t ht).symm)
    refine AStep.sound ho hS hdst hstep (fun a' w' G2 hG2 hS2 => ?_)
    refine ih (listed.setIfInBounds i true) G2 a' w' (by have := left_set hilt hl (ready_not hi); omega) (by simpa using hl) (hc.set hi) (fun k hk => (lst_set hilt hl).2 (.inr (hlow k hk))) (hG.trans hG2) ?_
    rw [frL_set c3 fr0 aas hilt hl]
    have : dstAt ops i = o.dst := by simp [dstAt, ho]
    rw [this]
    exact hS2

/-- The first phase: whatever is ready next. -/
theorem at_lst (c1 : chkTab ops (Region.before ops) = true) {listed : Array Bool} (hc : ClosedL ops listed) {i : Nat} (hi : i ∈ Region.ready .any ops listed) (ha : chkAt (Region.before ops) S i = true) {k : Nat} (hk : k ∈ S) (hks : k < ops.size) (hki : k ≠ i) : Lst listed k ↔ k < i := by
  unfold chkAt at ha
  rw [List.all_eq_true] at ha
  have h1 := ha k hk
  simp only [Bool.or_eq_true, beq_iff_eq, hki, false_or] at h1
  obtain ⟨_, o, ho, _⟩ := mem_ready.1 hi
  have hilt : i < ops.size := (Array.getElem?_eq_some_iff.1 ho).1
  by_cases h : k < i
  · rw [if_pos h] at h1
    exact ⟨fun _ => h, fun _ => ready_before c1 hc hi hks h1⟩
  · rw [if_neg h] at h1
    exact ⟨fun hl => absurd (before_listed c1 hc hilt k k (Nat.le_refl _) hks h1 (fun o' ho' e he hbd => hc k o' ho' hl e he hbd)) (ready_not hi), fun hh => absurd hh h⟩
theorem draw_first {Q : Exit → Act → World → Prop} (c1 : chkTab ops (Region.before ops) = true) (c2 : chkNames ops (Region.before ops) = true) (c3 : chkDst ops = true) (c5 : chkEdges ops = true) (hdst : ∀ (j : Nat) (o : Oper), ops[j]? = some o → dstOk n o.dst) (fr0 : Nat → AV) (ps : List Ph) (I : List Nat) (hm : ps.length < ops.size)
    (hf : chkFirst (Region.before ops) I ps.length ops.size = true) (hI : ∀ k, isI ps k = true → k ∈ I) (hIs : ∀ i ∈ I, i < ps.length)
    (hstep : ∀ ids, (∀ k, σ0.objs.length ≤ ids k) → ∀ (k : Nat) (o : Oper) (p : Ph), ops[k]? = some o → ps[k]? = some p → PhStep P σ0 A ops S k o p (OsU ps O k) (frT ops fr0 (aasU ps ids) k))
    (hnext : ∀ ids σ G' a w fuel (listed : Array Bool), (∀ k, σ0.objs.length ≤ ids k) → ((List.range ops.size).filter fun k => !listed.getD k false).length ≤ fuel → listed.size = ops.size → ClosedL ops listed → (∀ k, Lst listed k → k < ps.length) → (∀ k, isI ps k = true → Lst listed k) → G.Le G' → Holds σ0 (accU ps ids ps.length ++ OsU ps O ps.length) A σ → Sim w0 G' n a w (frL ops fr0 (aasU ps ids) listed) σ → wpAny P .any ops Q fuel listed a w) :
    ∀ (fuel : Nat) (listed : Array Bool) (ids : Nat → Nat) (L : List Nat) (q : Nat) (σ : St) (G' : Ghost) (a : Act) (w : World), ((List.range ops.size).filter fun k => !listed.getD k false).length ≤ fuel → listed.size = ops.size → ClosedL ops listed → (∀ k, Lst listed k → k < ps.length) → (∀ k, σ0.objs.length ≤ ids k) → L.Nodup → (∀ k, k ∈ L ↔ isU ps k = true ∧ Lst listed k) → (∀ k, isT ps k = true → (Lst listed k ↔ k < q)) → G.Le G' →
      Holds σ0 (OsU ps O q ++ L.map (fun u => (ids u, csU ps u))) A σ → Sim w0 G' n a w (frL ops fr0 (aasU ps ids) listed) σ → wpAny P .any ops Q fuel listed a w := by
  have tI : ∀ k, isT ps k = true → isI ps k = true := fun k h => by
    unfold isT at h; unfold isI
    split at h
    · rename_i h2; rw [h2]
    · cases h
  have uI : ∀ k, isU ps k = true → isI ps k = true := fun k h => by
    unfold isU at h; unfold isI
    split at h
    · rename_i h2; rw [h2]
    · cases h
  have tS : ∀ k, isT ps k = true → k ∈ S := fun k h => by
    unfold isT at h
    split at h
    · rename_i O' v h2
      have hkl := (List.getElem?_eq_some_iff.1 h2).1
      have hst := hstep (fun _ => σ0.objs.length) (fun _ => Nat.le_refl _) k _ _ (Array.getElem?_eq_getElem (show k < ops.size by omega)) h2
      unfold PhStep at hst
      simpa using hst.1
    · cases h
  intro fuel
  induction fuel with
  | zero =>
    intro listed ids L q σ G' a w hfu hl hc hlt hid hL hLm hq hG hH hS
    exfalso
    have : ps.length ∈ (List.range ops.size).filter fun k => !listed.getD k false := by
      rw [List.mem_filter]
      refine ⟨List.mem_range.2 hm, ?_⟩
      have hn : ¬ Lst listed ps.length := fun h => absurd (hlt _ h) (Nat.lt_irrefl _)
      unfold Lst at hn
      simpa using hn
    have := List.length_pos_of_mem this
    omega
  | succ fuel ih =>
    intro listed ids L q σ G' a w hfu hl hc hlt hid hL hLm hq hG hH hS
    by_cases hall : ∀ k, isI ps k = true → Lst listed k
    · refine hnext ids σ G' a w (fuel + 1) listed hid hfu hl hc hlt hall hG ?_ hS
      have e1 : OsU ps O q = OsU ps O ps.length := OsU_eq fun k hk => ⟨fun h => hlt k ((hq k hk).2 h), fun _ => (hq k hk).1 (hall k (tI k hk))⟩
      rw [← e1]
      refine hH.perm (List.perm_append_comm.trans (List.Perm.append_right _ ?_))
      rw [accU_eq]
      refine List.Perm.map _ ((List.perm_ext_iff_of_nodup hL (nodup_lstU ps _)).2 fun k => ?_)
      rw [hLm, mem_lstU]
      exact ⟨fun h => ⟨hlt k h.2, h.1⟩, fun h => ⟨h.2, hall k (uI k h.2)⟩⟩
    · have hnear : ∀ i ∈ Region.ready .any ops listed, i < ps.length := by
        intro i hi
        rcases Nat.lt_or_ge i ps.length with h | h
        · exact h
        · exfalso
          refine hall fun k hk => ?_
          obtain ⟨_, o, ho, _⟩ := mem_ready.1 hi
          have hilt : i < ops.size := (Array.getElem?_eq_some_iff.1 ho).1
          have h2 := hf
          unfold chkFirst at h2
          rw [List.all_eq_true] at h2
          have h3 := h2 i (List.mem_range.2 hilt)
          simp only [Bool.or_eq_true, decide_eq_true_eq, List.all_eq_true] at h3
          have h4 := (h3.resolve_left (by omega)) k (hI k hk)
          exact ready_before c1 hc hi (by have := hIs k (hI k hk); omega) h4
      refine ⟨fun hr => ?_, fun i hi => ?_⟩
      · exfalso
        exact absurd (hlt _ (ready_nil c5 hl hr ps.length hm)) (Nat.lt_irrefl _)
      · obtain ⟨h0, o, ho, hal⟩ := mem_ready.1 hi
        have hilt : i < ops.size := (Array.getElem?_eq_some_iff.1 ho).1
        have hin := hnear i hi
        have hni := ready_not hi
        obtain ⟨p, hp⟩ : ∃ p, ps[i]? = some p := ⟨_, List.getElem?_eq_getElem hin⟩
        have hst := hstep ids hid i o _ ho hp
        have hlk := frL_looks c1 c2 c3 fr0 (aasU ps ids) hc ho hi
        have hdd : dstAt ops i = o.dst := by simp [dstAt, ho]
        have hleft := left_set hilt hl hni
        have hlt2 : ∀ k, Lst (listed.setIfInBounds i true) k → k < ps.length := fun k hk => by
          rcases (lst_set hilt hl).1 hk with rfl | h
          · exact hin
          · exact hlt k h
        have hat : chkAt (Region.before ops) S i = true → ∀ k, isT ps k = true → k ≠ i → (k < q ↔ k < i) := fun ha k hk hki => (hq k hk).symm.trans (at_lst c1 hc hi ha (tS k hk) (by have := hIs k (hI k (tI k hk)); omega) hki)
        obtain ⟨kd, v⟩ := p
        unfold PhStep at hst
        have plain : isU ps i = false → isT ps i = false → aasU ps ids i = v 0 → AStep P ops o (frT ops fr0 (aasU ps ids) i) σ (v 0) σ → wpOp P ops Q i (wpAny P .any ops Q fuel (listed.setIfInBounds i true)) a w := by
          intro e1 e2 e3 hs1
          refine AStep.sound ho hS hdst (hs1.congr (fun t ht => (hlk t ht).symm)) (fun a' w' G2 hG2 hS2 => ?_)
          refine ih _ ids L q σ G2 a' w' (by omega) (by simpa using hl) (hc.set hi) hlt2 hid hL (fun k => ?_) (fun k hk => ?_) (hG.trans hG2) hH ?_
          · rw [hLm, lst_set hilt hl]
            constructor
            · exact fun h => ⟨h.1, .inr h.2⟩
            · rintro ⟨h1, rfl | h2⟩
              · rw [e1] at h1; cases h1
              · exact ⟨h1, h2⟩
          · rw [← hq k hk, lst_set hilt hl]
            constructor
            · rintro (rfl | h)
              · rw [e2] at hk; cases hk
              · exact h
            · exact .inr
          · rw [frL_set c3 fr0 _ hilt hl, hdd, e3]
            exact hS2
        cases kd with
        | p => exact plain (by simp [isU, hp]) (by simp [isT, hp]) (by simp [aasU, hp, Ph.val]) (hst σ)
        | r =>
          have e2 : isT ps i = false := by simp [isT, hp]
          refine plain (by simp [isU, hp]) e2 (by simp [aasU, hp, Ph.val]) (hst.2 (L.map fun u => (ids u, csU ps u)) σ ?_)
          rw [← OsU_eq (q := q) fun k hk => hat hst.1 k hk (fun e => by rw [e, e2] at hk; cases hk)]
          exact hH
        | t O' =>
          have e2 : isT ps i = true := by simp [isT, hp]
          have e1 : isU ps i = false := by simp [isU, hp]
          have e3 : aasU ps ids i = v 0 := by simp [aasU, hp, Ph.val]
          have hiq : ¬ i < q := fun h => hni ((hq i e2).2 h)
          have hq2 : ∀ k, isT ps k = true → (k < q ↔ k < i) := fun k hk => by
            by_cases hki : k = i
            · subst hki
              exact ⟨fun h => absurd h hiq, fun h => absurd h (Nat.lt_irrefl _)⟩
            · exact hat hst.2.1 k hk hki
          obtain ⟨τ, hs1, hH2⟩ := hst.2.2 (L.map fun u => (ids u, csU ps u)) σ (by rw [← OsU_eq hq2]; exact hH)
          refine AStep.sound ho hS hdst (hs1.congr (fun t ht => (hlk t ht).symm)) (fun a' w' G2 hG2 hS2 => ?_)
          refine ih _ ids L (i + 1) τ G2 a' w' (by omega) (by simpa using hl) (hc.set hi) hlt2 hid hL (fun k => ?_) (fun k hk => ?_) (hG.trans hG2) ?_ ?_
          · rw [hLm, lst_set hilt hl]
            constructor
            · exact fun h => ⟨h.1, .inr h.2⟩
            · rintro ⟨h1, rfl | h2⟩
              · rw [e1] at h1; cases h1
              · exact ⟨h1, h2⟩
          · rw [lst_set hilt hl, hq k hk, hq2 k hk]
            omega
          · have e4 : OsU ps O (i + 1) = O' := by simp [OsU, hp]
            rw [e4]
            exact hH2
          · rw [frL_set c3 fr0 _ hilt hl, hdd, e3]
            exact hS2
        | a c =>
          have e1 : isU ps i = true := by simp [isU, hp]
          have e2 : csU ps i = c := by simp [csU, hp]
          have e5 : isT ps i = false := by simp [isT, hp]
          obtain ⟨id, τ, hs1, hH2, hid2⟩ := hst σ _ hH
          refine AStep.sound ho hS hdst (hs1.congr (fun t ht => (hlk t ht).symm)) (fun a' w' G2 hG2 hS2 => ?_)
          have hiL : i ∉ L := fun h => hni ((hLm i).1 h).2
          have e4 : ∀ k, k ≠ i → aasU ps (fun k => if k = i then id else ids k) k = aasU ps ids k := fun k hk => by simp [aasU, hk]
          refine ih _ (fun k => if k = i then id else ids k) (i :: L) q τ G2 a' w' (by omega) (by simpa using hl) (hc.set hi) hlt2 (fun k => ?_) (List.nodup_cons.2 ⟨hiL, hL⟩) (fun k => ?_) (fun k hk => ?_) (hG.trans hG2) ?_ ?_
          · split
            · exact hid2
            · exact hid k
          · rw [List.mem_cons, hLm, lst_set hilt hl]
            constructor
            · rintro (rfl | h)
              · exact ⟨e1, .inl rfl⟩
              · exact ⟨h.1, .inr h.2⟩
            · rintro ⟨h1, rfl | h2⟩
              · exact .inl rfl
              · exact .inr ⟨h1, h2⟩
          · rw [← hq k hk, lst_set hilt hl]
            constructor
            · rintro (rfl | h)
              · rw [e5] at hk; cases hk
              · exact h
            · exact .inr
          · have e6 : L.map (fun u => ((if u = i then id else ids u), csU ps u)) = L.map (fun u => (ids u, csU ps u)) := List.map_congr_left fun u hu => by
              rw [if_neg (show ¬ u = i from fun e => hiL (e ▸ hu))]
            refine hH2.perm ?_
            rw [List.map_cons, e6, e2, if_pos rfl]
            exact List.perm_middle.symm
          · rw [frL_set c3 fr0 _ hilt hl, hdd, frL_congr (aas' := aasU ps ids) fr0 (fun k hk => e4 k (fun e => hni (e ▸ hk)))]
            have e3 : aasU ps (fun k => if k = i then id else ids k) i = v id := by simp [aasU, hp, Ph.val]
            rw [e3]
            exact hS2
theorem take_filter {p : Nat → Bool} {l : List Nat} {j : Nat} (hj : j ≤ l.length) (h : ∀ s ∈ l.take j, p s = true) : j ≤ (l.filter p).length := by
  have h1 : ((l.take j).filter p).length ≤ (l.filter p).length := ((List.take_sublist j l).filter p).length_le
  rw [List.filter_eq_self.2 h, List.length_take] at h1
  omega
/-- A region in which some things are made in no order, beside one that turns, and then the rest. -/
theorem awp_drawU (hm : P.follows .mixedOrders = true) {σ : St} {id : Nat} {Q : AExit → (Nat → AV) → St → Prop} {fr : Nat → AV} (hH : Holds σ0 O A σ) (m : Nat) (I : List Nat) (ps : List Ph) (S : List Nat) (hpm : ps.length = m) (hI : I = (List.range m).filter (isI ps)) (hd : allDst n ops = true) (hchk : drawChk ops S = true) (hs : srt S ops.size = true) (hl : cnt S ops.size = S.length)
    (hlt : Nat.ble (m + 1) ops.size = true) (hf : chkFirst (Region.before ops) I m ops.size = true) (hST : S.all (fun s => Nat.ble m s || isI ps s) = true) (h : wpdU P σ0 A ops S (Q .normal) 0 ops.toList ps [] O fr) : AWP P n (.region id ops true) Q fr σ := by
  subst hpm
  have hchk0 := hchk
  simp only [drawChk, Bool.and_eq_true] at hchk
  obtain ⟨⟨⟨⟨c1, c2⟩, c3⟩, c4⟩, c5⟩ := hchk
  have hlt' : ps.length < ops.size := Nat.le_of_ble_eq_true hlt
  have hIl : ∀ k, isI ps k = true → k < ps.length := fun k hk => by
    rcases Nat.lt_or_ge k ps.length with h | h
    · exact h
    · unfold isI at hk
      rw [List.getElem?_eq_none h] at hk
      cases hk
  have hIm : ∀ k, k ∈ I ↔ isI ps k = true := fun k => by
    rw [hI, List.mem_filter, List.mem_range]
    exact ⟨fun h => h.2, fun h => ⟨hIl k h, h⟩⟩
  have hst := fun (ids : Nat → Nat) (hid : ∀ k, σ0.objs.length ≤ ids k) => wpdU_steps (K := Q .normal) (ops := ops) (S := S) (O := O) (A := A) (P := P) fr ps (by omega) ids hid ps.length 0 (by omega) (by simpa [frT, accU, OsU] using h)
  intro w0 G a w hS
  refine wp_region_any hm ?_
  have hrep : ∀ k, ¬ Lst (Array.replicate ops.size false) k := fun k hk => by
    unfold Lst at hk
    rw [Array.getD_eq_getD_getElem?, Array.getElem?_replicate] at hk
    split at hk <;> simp at hk
  refine draw_first (w0 := w0) (G := G) (n := n) (O := O) (A := A) (σ0 := σ0) (S := S) c1 c2 c3 c5 (allDst_spec hd) fr ps I hlt' hf (fun k hk => (hIm k).2 hk) (fun i hi => hIl i ((hIm i).1 hi)) (fun ids hid k o p ho hp => (hst ids hid).1 k o p (Nat.zero_le _) ho hp) ?_ ops.size (Array.replicate ops.size false) (fun _ => σ0.objs.length) [] 0 σ G a _ ?_ (by simp) (fun k o ho hk => absurd hk (hrep k)) (fun k hk => absurd hk (hrep k)) (fun _ => Nat.le_refl _) List.nodup_nil (fun k => by simp only [List.not_mem_nil, false_iff]; exact fun h => hrep k h.2) (fun k _ => ⟨fun h => absurd h (hrep k), fun h => absurd h (Nat.not_lt_zero _)⟩) (.refl G) (by simpa [OsU] using hH) ?_
  · intro ids σ1 G1 a1 w1 fuel listed hid hfu hls hcl hlow hall hG1 hH1 hS1
    have hw := (hst ids hid).2 σ1 hH1
    obtain ⟨aas, σs, k1, k2, k3, k4⟩ := wpdS_steps (P := P) (ops := ops) (S := S) (K := Q .normal) fr hs (ops.size - ps.length) ps.length (aasU ps ids) (fun _ => σ1) (by omega) hw
    have hstg : stg listed S ≤ cnt S ps.length := by
      obtain ⟨t1, t2, t3⟩ := stg_spec c1 hcl c4
      exact take_filter t3 fun s hs2 => Nat.ble_eq_true_of_le (show s + 1 ≤ ps.length from hlow s (t1 s hs2))
    have low : ∀ i, ¬ Lst listed i → i < ps.length → ∀ (o : Oper), ops[i]? = some o → i ∉ S ∧ ∀ τ, AStep P ops o (frT ops fr aas i) τ (aas i) τ := fun i hr hil o ho => by
      obtain ⟨p, hp⟩ : ∃ p, ps[i]? = some p := ⟨_, List.getElem?_eq_getElem hil⟩
      have hni : isI ps i = false := by
        cases h : isI ps i with
        | false => rfl
        | true => exact absurd (hall i h) hr
      refine ⟨fun hiS => ?_, ?_⟩
      · have h3 := List.all_eq_true.1 hST i hiS
        rw [hni, Bool.or_false] at h3
        have := Nat.le_of_ble_eq_true h3
        omega
      · have hst2 := (hst ids hid).1 i o p (Nat.zero_le _) ho hp
        obtain ⟨kd, v⟩ := p
        have e3 : aas i = v 0 := by
          rw [k1 i hil]
          unfold isI at hni
          rw [hp] at hni
          cases kd <;> simp at hni
          simp [aasU, hp, Ph.val]
        have e4 : frT ops fr aas i = frT ops fr (aasU ps ids) i := frT_congr fr i fun k hk => k1 k (by omega)
        rw [e3, e4]
        unfold isI at hni
        rw [hp] at hni
        cases kd <;> simp at hni
        exact hst2
    refine draw_from (w0 := w0) (G := G) hchk0 (fun k => ¬ Lst listed k) (allDst_spec hd) fr aas σs (fun i j o hmi ho hj => ?_) (fun i o hmi ho hi j hj => ?_) (fun G' a' w' h1 h2 => ⟨.normal, _, _, G', trivial, h1, h2, by rw [← hl]; exact k3⟩) fuel listed G1 a1 w1 hfu hls hcl (fun k hk => Classical.byContradiction hk) hG1 ?_
    · have hi : S.contains i = true := by simpa using List.mem_of_getElem? hj
      have hmi2 : ps.length ≤ i := by
        rcases Nat.lt_or_ge i ps.length with h | h
        · exact absurd (List.mem_of_getElem? hj) (low i hmi h o ho).1
        · exact h
      have hcj : cnt S i = j := by
        have h2 := hs
        simp only [srt, Bool.and_eq_true, List.all_eq_true] at h2
        have hjl := (List.getElem?_eq_some_iff.1 hj).1
        have := h2.1 j (by simpa using hjl)
        rw [List.getD_eq_getElem?_getD, hj] at this
        simpa using this
      have := (k4 i o hmi2 ho).1 hi
      rw [hcj] at this
      exact this
    · rcases Nat.lt_or_ge i ps.length with h | h
      · exact (low i hmi h o ho).2 _
      · exact (k4 i o h ho).2 (by simpa using hi) j hj
    · rw [k2 _ hstg, frL_congr (aas' := aasU ps ids) fr (fun k hk => k1 k (hlow k hk))]
      exact hS1
  · exact Nat.le_trans (List.length_filter_le _ _) (by simp)
  · have hfr : frL ops fr (aasU ps fun _ => σ0.objs.length) (Array.replicate ops.size false) = fr := by
      funext t
      unfold frL
      cases wOf ops t with
      | none => rfl
      | some k =>
        simp only []
        rw [if_neg (show ¬ (Array.replicate ops.size false).getD k false = true from hrep k)]
    rw [hfr]
    exact ⟨hS.inv.drew, hS.frm, hS.size, hS.defers⟩
end
section
variable {P : Program} {σ0 : St} {O : List (Nat × List AV)} {A : List Nat} {ops : Array Oper} {S : List Nat} {K : (Nat → AV) → St → Prop} {i : Nat} {o : Oper} {rest : List Oper} {ps : List Ph} {acc : List (Nat × List AV)} {l : List (Nat × AV)} {t : Tmp}
theorem wpdU_nil (h : ∀ σ, Holds σ0 (acc ++ O) A σ → wpdS P ops S K i rest (fm l) σ) : wpdU P σ0 A ops S K i rest [] acc O (fm l) := by
  unfold wpdU
  exact h
theorem wpdU_mv {a : AV} (hd : o.dst = some t) (hg : guardOf ops o (fm l) = some true) (ho : OpP P o (fm l) a) (h : wpdU P σ0 A ops S K (i + 1) rest ps acc O (fm ((t, a) :: l))) : wpdU P σ0 A ops S K i (o :: rest) ((.p, fun _ => a) :: ps) acc O (fm l) := by
  unfold wpdU
  refine ⟨fun τ => ?_, by rw [hd]; exact h⟩
  simp only [AStep, hg]
  exact ho τ
theorem wpdU_a {av : Nat → AV} {c : List AV} (hd : o.dst = some t) (hg : guardOf ops o (fm l) = some true) (ho : ∀ σ O', Holds σ0 O' A σ → ∃ b τ, OpS P o (fm l) σ (fun a' τ' => a' = av b ∧ τ' = τ) ∧ (Holds σ0 ((b, c) :: O') A τ ∧ σ0.objs.length ≤ b)) (h : ∀ b, σ0.objs.length ≤ b → wpdU P σ0 A ops S K (i + 1) rest ps ((b, c) :: acc) O (fm ((t, av b) :: l))) : wpdU P σ0 A ops S K i (o :: rest) ((.a c, av) :: ps) acc O (fm l) := by
  unfold wpdU
  refine ⟨fun σ O' hH => ?_, fun id hid => by rw [hd]; exact h id hid⟩
  obtain ⟨b, τ, h1, h2, h3⟩ := ho σ O' hH
  refine ⟨b, τ, ?_, h2, h3⟩
  simp only [AStep, hg]
  exact h1
end
end Go.Va
namespace Go.Proofs.YtobbifgmjkgkfaaDoor
open Go Go.Va
set_option linter.unusedSimpArgs false
def ty_0 : TypeId → Option TI
  | 1 => some ⟨.func, 1, 8, .nilf⟩
  | 2 => some ⟨.int .i64, 1, 8, .int .i64 0⟩
  | 3 => some ⟨.int .i64, 1, 8, .int .i64 0⟩
  | 4 => some ⟨.bool, 1, 1, .bool false⟩
  | 5 => some ⟨.int .u8, 1, 1, .int .u8 0⟩
  | 6 => some ⟨.int .u8, 1, 1, .int .u8 0⟩
  | 7 => some ⟨.struct [(0, 2), (1, 3), (2, 4), (3, 6)], 4, 24, .agg [.int .i64 0, .int .i64 0, .bool false, .int .u8 0]⟩
  | 8 => some ⟨.struct [(0, 2), (1, 3), (2, 4), (3, 6)], 4, 24, .agg [.int .i64 0, .int .i64 0, .bool false, .int .u8 0]⟩
  | 9 => some ⟨.str, 1, 16, .str ⟨#[]⟩⟩
  | 10 => some ⟨.str, 1, 16, .str ⟨#[]⟩⟩
  | 11 => some ⟨.str, 1, 16, .str ⟨#[]⟩⟩
  | 12 => some ⟨.int .u64, 1, 8, .int .u64 0⟩
  | 13 => some ⟨.struct [(0, 9), (1, 12)], 2, 24, .agg [.str ⟨#[]⟩, .int .u64 0]⟩
  | 14 => some ⟨.struct [(0, 9), (1, 12)], 2, 24, .agg [.str ⟨#[]⟩, .int .u64 0]⟩
  | 15 => some ⟨.ptr 167, 1, 8, .nilp⟩
  | 16 => some ⟨.ptr 170, 1, 8, .nilp⟩
  | 17 => some ⟨.ptr 179, 1, 8, .nilp⟩
  | 18 => some ⟨.struct [(0, 17)], 1, 8, .agg [.nilp]⟩
  | 19 => some ⟨.struct [(0, 17)], 1, 8, .agg [.nilp]⟩
  | 20 => some ⟨.iface, 1, 16, .nili⟩
  | 21 => some ⟨.int .i32, 1, 4, .int .i32 0⟩
  | 22 => some ⟨.slice 44, 1, 24, .nils⟩
  | 23 => some ⟨.func, 1, 8, .nilf⟩
  | 24 => some ⟨.func, 1, 8, .nilf⟩
  | 25 => some ⟨.ptr 93, 1, 8, .nilp⟩
  | 26 => some ⟨.iface, 1, 16, .nili⟩
  | 27 => some ⟨.iface, 1, 16, .nili⟩
  | 29 => some ⟨.func, 1, 8, .nilf⟩
  | 30 => some ⟨.slice 42, 1, 24, .nils⟩
  | 31 => some ⟨.slice 9, 1, 24, .nils⟩
  | 32 => some ⟨.struct [(0, 3), (1, 30), (2, 31)], 3, 56, .agg [.int .i64 0, .nils, .nils]⟩
  | 33 => some ⟨.struct [(0, 3), (1, 30), (2, 31)], 3, 56, .agg [.int .i64 0, .nils, .nils]⟩
  | 34 => some ⟨.int .i64, 1, 8, .int .i64 0⟩
  | 36 => some ⟨.func, 1, 8, .nilf⟩
  | 37 => some ⟨.func, 1, 8, .nilf⟩
  | 39 => some ⟨.func, 1, 8, .nilf⟩
  | 40 => some ⟨.slice 5, 1, 24, .nils⟩
  | 41 => some ⟨.struct [(0, 9), (1, 3), (2, 3), (3, 3), (4, 40)], 5, 64, .agg [.str ⟨#[]⟩, .int .i64 0, .int .i64 0, .int .i64 0, .nils]⟩
  | 42 => some ⟨.struct [(0, 9), (1, 3), (2, 3), (3, 3), (4, 40)], 5, 64, .agg [.str ⟨#[]⟩, .int .i64 0, .int .i64 0, .int .i64 0, .nils]⟩
  | 43 => some ⟨.struct [(0, 3), (1, 42)], 6, 72, .agg [.int .i64 0, .str ⟨#[]⟩, .int .i64 0, .int .i64 0, .int .i64 0, .nils]⟩
  | 44 => some ⟨.struct [(0, 3), (1, 42)], 6, 72, .agg [.int .i64 0, .str ⟨#[]⟩, .int .i64 0, .int .i64 0, .int .i64 0, .nils]⟩
  | 45 => some ⟨.func, 1, 8, .nilf⟩
  | 46 => some ⟨.func, 1, 8, .nilf⟩
  | 47 => some ⟨.func, 1, 8, .nilf⟩
  | 48 => some ⟨.func, 1, 8, .nilf⟩
  | 49 => some ⟨.func, 1, 8, .nilf⟩
  | 50 => some ⟨.func, 1, 8, .nilf⟩
  | 51 => some ⟨.func, 1, 8, .nilf⟩
  | 52 => some ⟨.func, 1, 8, .nilf⟩
  | 53 => some ⟨.func, 1, 8, .nilf⟩
  | 55 => some ⟨.func, 1, 8, .nilf⟩
  | 56 => some ⟨.func, 1, 8, .nilf⟩
  | 57 => some ⟨.slice 70, 1, 24, .nils⟩
  | 58 => some ⟨.ptr 114, 1, 8, .nilp⟩
  | 60 => some ⟨.func, 1, 8, .nilf⟩
  | 61 => some ⟨.slice 62, 1, 24, .nils⟩
  | 62 => some ⟨.slice 3, 1, 24, .nils⟩
  | 63 => some ⟨.struct [(0, 61), (1, 62), (2, 62), (3, 3)], 4, 80, .agg [.nils, .nils, .nils, .int .i64 0]⟩
  | 64 => some ⟨.struct [(0, 61), (1, 62), (2, 62), (3, 3)], 4, 80, .agg [.nils, .nils, .nils, .int .i64 0]⟩
  | 66 => some ⟨.func, 1, 8, .nilf⟩
  | _ => none
def ty_1 : TypeId → Option TI
  | 68 => some ⟨.func, 1, 8, .nilf⟩
  | 69 => some ⟨.struct [(0, 3), (1, 3)], 2, 16, .agg [.int .i64 0, .int .i64 0]⟩
  | 70 => some ⟨.struct [(0, 3), (1, 3)], 2, 16, .agg [.int .i64 0, .int .i64 0]⟩
  | 71 => some ⟨.func, 1, 8, .nilf⟩
  | 72 => some ⟨.func, 1, 8, .nilf⟩
  | 74 => some ⟨.func, 1, 8, .nilf⟩
  | 75 => some ⟨.func, 1, 8, .nilf⟩
  | 76 => some ⟨.func, 1, 8, .nilf⟩
  | 77 => some ⟨.func, 1, 8, .nilf⟩
  | 78 => some ⟨.func, 1, 8, .nilf⟩
  | 79 => some ⟨.func, 1, 8, .nilf⟩
  | 80 => some ⟨.func, 1, 8, .nilf⟩
  | 81 => some ⟨.func, 1, 8, .nilf⟩
  | 82 => some ⟨.func, 1, 8, .nilf⟩
  | 83 => some ⟨.func, 1, 8, .nilf⟩
  | 84 => some ⟨.func, 1, 8, .nilf⟩
  | 85 => some ⟨.func, 1, 8, .nilf⟩
  | 86 => some ⟨.func, 1, 8, .nilf⟩
  | 87 => some ⟨.struct [(0, 3), (1, 86), (2, 30)], 3, 40, .agg [.int .i64 0, .nilf, .nils]⟩
  | 88 => some ⟨.struct [(0, 3), (1, 86), (2, 30)], 3, 40, .agg [.int .i64 0, .nilf, .nils]⟩
  | 89 => some ⟨.func, 1, 8, .nilf⟩
  | 90 => some ⟨.struct [(0, 3), (1, 89), (2, 31)], 3, 40, .agg [.int .i64 0, .nilf, .nils]⟩
  | 91 => some ⟨.struct [(0, 3), (1, 89), (2, 31)], 3, 40, .agg [.int .i64 0, .nilf, .nils]⟩
  | 92 => some ⟨.struct [(0, 88), (3, 91)], 6, 80, .agg [.int .i64 0, .nilf, .nils, .int .i64 0, .nilf, .nils]⟩
  | 93 => some ⟨.struct [(0, 88), (3, 91)], 6, 80, .agg [.int .i64 0, .nilf, .nils, .int .i64 0, .nilf, .nils]⟩
  | 94 => some ⟨.ptr 98, 1, 8, .nilp⟩
  | 95 => some ⟨.func, 1, 8, .nilf⟩
  | 96 => some ⟨.ptr 94, 1, 8, .nilp⟩
  | 97 => some ⟨.struct [(0, 9), (1, 3), (2, 34), (3, 27)], 4, 48, .agg [.str ⟨#[]⟩, .int .i64 0, .int .i64 0, .nili]⟩
  | 98 => some ⟨.struct [(0, 9), (1, 3), (2, 34), (3, 27)], 4, 48, .agg [.str ⟨#[]⟩, .int .i64 0, .int .i64 0, .nili]⟩
  | 99 => some ⟨.func, 1, 8, .nilf⟩
  | 101 => some ⟨.func, 1, 8, .nilf⟩
  | 102 => some ⟨.func, 1, 8, .nilf⟩
  | 103 => some ⟨.func, 1, 8, .nilf⟩
  | 104 => some ⟨.func, 1, 8, .nilf⟩
  | 106 => some ⟨.func, 1, 8, .nilf⟩
  | 108 => some ⟨.func, 1, 8, .nilf⟩
  | 109 => some ⟨.func, 1, 8, .nilf⟩
  | 110 => some ⟨.func, 1, 8, .nilf⟩
  | 111 => some ⟨.func, 1, 8, .nilf⟩
  | 112 => some ⟨.slice 116, 1, 24, .nils⟩
  | 113 => some ⟨.struct [(0, 112), (1, 62), (2, 62), (3, 62), (4, 3), (5, 3)], 6, 112, .agg [.nils, .nils, .nils, .nils, .int .i64 0, .int .i64 0]⟩
  | 114 => some ⟨.struct [(0, 112), (1, 62), (2, 62), (3, 62), (4, 3), (5, 3)], 6, 112, .agg [.nils, .nils, .nils, .nils, .int .i64 0, .int .i64 0]⟩
  | 115 => some ⟨.struct [(0, 3), (1, 3), (2, 3), (3, 3)], 4, 32, .agg [.int .i64 0, .int .i64 0, .int .i64 0, .int .i64 0]⟩
  | 116 => some ⟨.struct [(0, 3), (1, 3), (2, 3), (3, 3)], 4, 32, .agg [.int .i64 0, .int .i64 0, .int .i64 0, .int .i64 0]⟩
  | 118 => some ⟨.func, 1, 8, .nilf⟩
  | 119 => some ⟨.func, 1, 8, .nilf⟩
  | 120 => some ⟨.func, 1, 8, .nilf⟩
  | 121 => some ⟨.func, 1, 8, .nilf⟩
  | 122 => some ⟨.func, 1, 8, .nilf⟩
  | 123 => some ⟨.func, 1, 8, .nilf⟩
  | 124 => some ⟨.func, 1, 8, .nilf⟩
  | 125 => some ⟨.func, 1, 8, .nilf⟩
  | 127 => some ⟨.int .u64, 1, 8, .int .u64 0⟩
  | 130 => some ⟨.func, 1, 8, .nilf⟩
  | 131 => some ⟨.iface, 1, 16, .nili⟩
  | 132 => some ⟨.iface, 1, 16, .nili⟩
  | 133 => some ⟨.func, 1, 8, .nilf⟩
  | 134 => some ⟨.int .u8, 1, 1, .int .u8 0⟩
  | 135 => some ⟨.func, 1, 8, .nilf⟩
  | _ => none
def ty_2 : TypeId → Option TI
  | 136 => some ⟨.func, 1, 8, .nilf⟩
  | 137 => some ⟨.func, 1, 8, .nilf⟩
  | 138 => some ⟨.func, 1, 8, .nilf⟩
  | 139 => some ⟨.func, 1, 8, .nilf⟩
  | 140 => some ⟨.ptr 88, 1, 8, .nilp⟩
  | 141 => some ⟨.ptr 42, 1, 8, .nilp⟩
  | 142 => some ⟨.func, 1, 8, .nilf⟩
  | 143 => some ⟨.func, 1, 8, .nilf⟩
  | 145 => some ⟨.func, 1, 8, .nilf⟩
  | 146 => some ⟨.func, 1, 8, .nilf⟩
  | 147 => some ⟨.func, 1, 8, .nilf⟩
  | 149 => some ⟨.func, 1, 8, .nilf⟩
  | 150 => some ⟨.struct [(0, 17)], 1, 8, .agg [.nilp]⟩
  | 151 => some ⟨.struct [(0, 17)], 1, 8, .agg [.nilp]⟩
  | 153 => some ⟨.func, 1, 8, .nilf⟩
  | 154 => some ⟨.func, 1, 8, .nilf⟩
  | 155 => some ⟨.func, 1, 8, .nilf⟩
  | 158 => some ⟨.func, 1, 8, .nilf⟩
  | 161 => some ⟨.iface, 1, 16, .nili⟩
  | 162 => some ⟨.slice 27, 1, 24, .nils⟩
  | 163 => some ⟨.func, 1, 8, .nilf⟩
  | 165 => some ⟨.func, 1, 8, .nilf⟩
  | 166 => some ⟨.struct [(0, 17), (1, 17), (2, 17), (3, 9)], 4, 40, .agg [.nilp, .nilp, .nilp, .str ⟨#[]⟩]⟩
  | 167 => some ⟨.struct [(0, 17), (1, 17), (2, 17), (3, 9)], 4, 40, .agg [.nilp, .nilp, .nilp, .str ⟨#[]⟩]⟩
  | 171 => some ⟨.func, 1, 8, .nilf⟩
  | 173 => some ⟨.int .u8, 1, 1, .int .u8 0⟩
  | 174 => some ⟨.func, 1, 8, .nilf⟩
  | 175 => some ⟨.ptr 5, 1, 8, .nilp⟩
  | 176 => some ⟨.int .i32, 1, 4, .int .i32 0⟩
  | 177 => some ⟨.int .i32, 1, 4, .int .i32 0⟩
  | 178 => some ⟨.struct [(0, 12), (1, 12), (2, 172), (3, 173), (4, 5), (5, 5), (6, 134), (7, 174), (8, 175), (9, 176), (10, 177)], 11, 48, .agg [.int .u64 0, .int .u64 0, .int .u32 0, .int .u8 0, .int .u8 0, .int .u8 0, .int .u8 0, .nilf, .nilp, .int .i32 0, .int .i32 0]⟩
  | 179 => some ⟨.struct [(0, 12), (1, 12), (2, 172), (3, 173), (4, 5), (5, 5), (6, 134), (7, 174), (8, 175), (9, 176), (10, 177)], 11, 48, .agg [.int .u64 0, .int .u64 0, .int .u32 0, .int .u8 0, .int .u8 0, .int .u8 0, .int .u8 0, .nilf, .nilp, .int .i32 0, .int .i32 0]⟩
  | 180 => some ⟨.func, 1, 8, .nilf⟩
  | 181 => some ⟨.func, 1, 8, .nilf⟩
  | 182 => some ⟨.func, 1, 8, .nilf⟩
  | 183 => some ⟨.struct [(0, 9), (1, 134)], 2, 24, .agg [.str ⟨#[]⟩, .int .u8 0]⟩
  | 184 => some ⟨.struct [(0, 9), (1, 134)], 2, 24, .agg [.str ⟨#[]⟩, .int .u8 0]⟩
  | 186 => some ⟨.func, 1, 8, .nilf⟩
  | 189 => some ⟨.struct [(0, 176), (1, 187), (2, 187), (3, 172), (4, 172)], 5, 16, .agg [.int .i32 0, .int .u16 0, .int .u16 0, .int .u32 0, .int .u32 0]⟩
  | 191 => some ⟨.int .i32, 1, 4, .int .i32 0⟩
  | 192 => some ⟨.struct [(0, 176), (1, 177), (2, 191), (3, 191)], 4, 16, .agg [.int .i32 0, .int .i32 0, .int .i32 0, .int .i32 0]⟩
  | 193 => some ⟨.struct [(0, 176), (1, 177), (2, 191), (3, 191)], 4, 16, .agg [.int .i32 0, .int .i32 0, .int .i32 0, .int .i32 0]⟩
  | _ => none
def ty : TypeId → Option TI := fun t => bif Nat.ble t 66 then ty_0 t else bif Nat.ble t 135 then ty_1 t else ty_2 t
theorem ty1 : ty 1 = some ⟨.func, 1, 8, .nilf⟩ := rfl
theorem td1 : tdOf ty 1 = .func := rfl
theorem sz1 : szOf ty 1 = 1 := rfl
theorem ty2 : ty 2 = some ⟨.int .i64, 1, 8, .int .i64 0⟩ := rfl
theorem td2 : tdOf ty 2 = .int .i64 := rfl
theorem sz2 : szOf ty 2 = 1 := rfl
theorem ty3 : ty 3 = some ⟨.int .i64, 1, 8, .int .i64 0⟩ := rfl
theorem td3 : tdOf ty 3 = .int .i64 := rfl
theorem sz3 : szOf ty 3 = 1 := rfl
theorem ty4 : ty 4 = some ⟨.bool, 1, 1, .bool false⟩ := rfl
theorem td4 : tdOf ty 4 = .bool := rfl
theorem sz4 : szOf ty 4 = 1 := rfl
theorem ty5 : ty 5 = some ⟨.int .u8, 1, 1, .int .u8 0⟩ := rfl
theorem td5 : tdOf ty 5 = .int .u8 := rfl
theorem sz5 : szOf ty 5 = 1 := rfl
theorem ty6 : ty 6 = some ⟨.int .u8, 1, 1, .int .u8 0⟩ := rfl
theorem td6 : tdOf ty 6 = .int .u8 := rfl
theorem sz6 : szOf ty 6 = 1 := rfl
theorem ty7 : ty 7 = some ⟨.struct [(0, 2), (1, 3), (2, 4), (3, 6)], 4, 24, .agg [.int .i64 0, .int .i64 0, .bool false, .int .u8 0]⟩ := rfl
theorem td7 : tdOf ty 7 = .struct [(0, 2), (1, 3), (2, 4), (3, 6)] := rfl
theorem sz7 : szOf ty 7 = 4 := rfl
theorem ty8 : ty 8 = some ⟨.struct [(0, 2), (1, 3), (2, 4), (3, 6)], 4, 24, .agg [.int .i64 0, .int .i64 0, .bool false, .int .u8 0]⟩ := rfl
theorem td8 : tdOf ty 8 = .struct [(0, 2), (1, 3), (2, 4), (3, 6)] := rfl
theorem sz8 : szOf ty 8 = 4 := rfl
theorem ty9 : ty 9 = some ⟨.str, 1, 16, .str ⟨#[]⟩⟩ := rfl
theorem td9 : tdOf ty 9 = .str := rfl
theorem sz9 : szOf ty 9 = 1 := rfl
theorem ty10 : ty 10 = some ⟨.str, 1, 16, .str ⟨#[]⟩⟩ := rfl
theorem td10 : tdOf ty 10 = .str := rfl
theorem sz10 : szOf ty 10 = 1 := rfl
theorem ty11 : ty 11 = some ⟨.str, 1, 16, .str ⟨#[]⟩⟩ := rfl
theorem td11 : tdOf ty 11 = .str := rfl
theorem sz11 : szOf ty 11 = 1 := rfl
theorem ty12 : ty 12 = some ⟨.int .u64, 1, 8, .int .u64 0⟩ := rfl
theorem td12 : tdOf ty 12 = .int .u64 := rfl
theorem sz12 : szOf ty 12 = 1 := rfl
theorem ty13 : ty 13 = some ⟨.struct [(0, 9), (1, 12)], 2, 24, .agg [.str ⟨#[]⟩, .int .u64 0]⟩ := rfl
theorem td13 : tdOf ty 13 = .struct [(0, 9), (1, 12)] := rfl
theorem sz13 : szOf ty 13 = 2 := rfl
theorem ty14 : ty 14 = some ⟨.struct [(0, 9), (1, 12)], 2, 24, .agg [.str ⟨#[]⟩, .int .u64 0]⟩ := rfl
theorem td14 : tdOf ty 14 = .struct [(0, 9), (1, 12)] := rfl
theorem sz14 : szOf ty 14 = 2 := rfl
theorem ty15 : ty 15 = some ⟨.ptr 167, 1, 8, .nilp⟩ := rfl
theorem td15 : tdOf ty 15 = .ptr 167 := rfl
theorem sz15 : szOf ty 15 = 1 := rfl
theorem ty16 : ty 16 = some ⟨.ptr 170, 1, 8, .nilp⟩ := rfl
theorem td16 : tdOf ty 16 = .ptr 170 := rfl
theorem sz16 : szOf ty 16 = 1 := rfl
theorem ty17 : ty 17 = some ⟨.ptr 179, 1, 8, .nilp⟩ := rfl
theorem td17 : tdOf ty 17 = .ptr 179 := rfl
theorem sz17 : szOf ty 17 = 1 := rfl
theorem ty18 : ty 18 = some ⟨.struct [(0, 17)], 1, 8, .agg [.nilp]⟩ := rfl
theorem td18 : tdOf ty 18 = .struct [(0, 17)] := rfl
theorem sz18 : szOf ty 18 = 1 := rfl
theorem ty19 : ty 19 = some ⟨.struct [(0, 17)], 1, 8, .agg [.nilp]⟩ := rfl
theorem td19 : tdOf ty 19 = .struct [(0, 17)] := rfl
theorem sz19 : szOf ty 19 = 1 := rfl
theorem ty20 : ty 20 = some ⟨.iface, 1, 16, .nili⟩ := rfl
theorem td20 : tdOf ty 20 = .iface := rfl
theorem sz20 : szOf ty 20 = 1 := rfl
theorem ty21 : ty 21 = some ⟨.int .i32, 1, 4, .int .i32 0⟩ := rfl
theorem td21 : tdOf ty 21 = .int .i32 := rfl
theorem sz21 : szOf ty 21 = 1 := rfl
theorem ty22 : ty 22 = some ⟨.slice 44, 1, 24, .nils⟩ := rfl
theorem td22 : tdOf ty 22 = .slice 44 := rfl
theorem sz22 : szOf ty 22 = 1 := rfl
theorem ty23 : ty 23 = some ⟨.func, 1, 8, .nilf⟩ := rfl
theorem td23 : tdOf ty 23 = .func := rfl
theorem sz23 : szOf ty 23 = 1 := rfl
theorem ty24 : ty 24 = some ⟨.func, 1, 8, .nilf⟩ := rfl
theorem td24 : tdOf ty 24 = .func := rfl
theorem sz24 : szOf ty 24 = 1 := rfl
theorem ty25 : ty 25 = some ⟨.ptr 93, 1, 8, .nilp⟩ := rfl
theorem td25 : tdOf ty 25 = .ptr 93 := rfl
theorem sz25 : szOf ty 25 = 1 := rfl
theorem ty26 : ty 26 = some ⟨.iface, 1, 16, .nili⟩ := rfl
theorem td26 : tdOf ty 26 = .iface := rfl
theorem sz26 : szOf ty 26 = 1 := rfl
theorem ty27 : ty 27 = some ⟨.iface, 1, 16, .nili⟩ := rfl
theorem td27 : tdOf ty 27 = .iface := rfl
theorem sz27 : szOf ty 27 = 1 := rfl
theorem ty29 : ty 29 = some ⟨.func, 1, 8, .nilf⟩ := rfl
theorem td29 : tdOf ty 29 = .func := rfl
theorem sz29 : szOf ty 29 = 1 := rfl
theorem ty30 : ty 30 = some ⟨.slice 42, 1, 24, .nils⟩ := rfl
theorem td30 : tdOf ty 30 = .slice 42 := rfl
theorem sz30 : szOf ty 30 = 1 := rfl
theorem ty31 : ty 31 = some ⟨.slice 9, 1, 24, .nils⟩ := rfl
theorem td31 : tdOf ty 31 = .slice 9 := rfl
theorem sz31 : szOf ty 31 = 1 := rfl
theorem ty32 : ty 32 = some ⟨.struct [(0, 3), (1, 30), (2, 31)], 3, 56, .agg [.int .i64 0, .nils, .nils]⟩ := rfl
theorem td32 : tdOf ty 32 = .struct [(0, 3), (1, 30), (2, 31)] := rfl
theorem sz32 : szOf ty 32 = 3 := rfl
theorem ty33 : ty 33 = some ⟨.struct [(0, 3), (1, 30), (2, 31)], 3, 56, .agg [.int .i64 0, .nils, .nils]⟩ := rfl
theorem td33 : tdOf ty 33 = .struct [(0, 3), (1, 30), (2, 31)] := rfl
theorem sz33 : szOf ty 33 = 3 := rfl
theorem ty34 : ty 34 = some ⟨.int .i64, 1, 8, .int .i64 0⟩ := rfl
theorem td34 : tdOf ty 34 = .int .i64 := rfl
theorem sz34 : szOf ty 34 = 1 := rfl
theorem ty36 : ty 36 = some ⟨.func, 1, 8, .nilf⟩ := rfl
theorem td36 : tdOf ty 36 = .func := rfl
theorem sz36 : szOf ty 36 = 1 := rfl
theorem ty37 : ty 37 = some ⟨.func, 1, 8, .nilf⟩ := rfl
theorem td37 : tdOf ty 37 = .func := rfl
theorem sz37 : szOf ty 37 = 1 := rfl
theorem ty39 : ty 39 = some ⟨.func, 1, 8, .nilf⟩ := rfl
theorem td39 : tdOf ty 39 = .func := rfl
theorem sz39 : szOf ty 39 = 1 := rfl
theorem ty40 : ty 40 = some ⟨.slice 5, 1, 24, .nils⟩ := rfl
theorem td40 : tdOf ty 40 = .slice 5 := rfl
theorem sz40 : szOf ty 40 = 1 := rfl
theorem ty41 : ty 41 = some ⟨.struct [(0, 9), (1, 3), (2, 3), (3, 3), (4, 40)], 5, 64, .agg [.str ⟨#[]⟩, .int .i64 0, .int .i64 0, .int .i64 0, .nils]⟩ := rfl
theorem td41 : tdOf ty 41 = .struct [(0, 9), (1, 3), (2, 3), (3, 3), (4, 40)] := rfl
theorem sz41 : szOf ty 41 = 5 := rfl
theorem ty42 : ty 42 = some ⟨.struct [(0, 9), (1, 3), (2, 3), (3, 3), (4, 40)], 5, 64, .agg [.str ⟨#[]⟩, .int .i64 0, .int .i64 0, .int .i64 0, .nils]⟩ := rfl
theorem td42 : tdOf ty 42 = .struct [(0, 9), (1, 3), (2, 3), (3, 3), (4, 40)] := rfl
theorem sz42 : szOf ty 42 = 5 := rfl
theorem ty43 : ty 43 = some ⟨.struct [(0, 3), (1, 42)], 6, 72, .agg [.int .i64 0, .str ⟨#[]⟩, .int .i64 0, .int .i64 0, .int .i64 0, .nils]⟩ := rfl
theorem td43 : tdOf ty 43 = .struct [(0, 3), (1, 42)] := rfl
theorem sz43 : szOf ty 43 = 6 := rfl
theorem ty44 : ty 44 = some ⟨.struct [(0, 3), (1, 42)], 6, 72, .agg [.int .i64 0, .str ⟨#[]⟩, .int .i64 0, .int .i64 0, .int .i64 0, .nils]⟩ := rfl
theorem td44 : tdOf ty 44 = .struct [(0, 3), (1, 42)] := rfl
theorem sz44 : szOf ty 44 = 6 := rfl
theorem ty45 : ty 45 = some ⟨.func, 1, 8, .nilf⟩ := rfl
theorem td45 : tdOf ty 45 = .func := rfl
theorem sz45 : szOf ty 45 = 1 := rfl
theorem ty46 : ty 46 = some ⟨.func, 1, 8, .nilf⟩ := rfl
theorem td46 : tdOf ty 46 = .func := rfl
theorem sz46 : szOf ty 46 = 1 := rfl
theorem ty47 : ty 47 = some ⟨.func, 1, 8, .nilf⟩ := rfl
theorem td47 : tdOf ty 47 = .func := rfl
theorem sz47 : szOf ty 47 = 1 := rfl
theorem ty48 : ty 48 = some ⟨.func, 1, 8, .nilf⟩ := rfl
theorem td48 : tdOf ty 48 = .func := rfl
theorem sz48 : szOf ty 48 = 1 := rfl
theorem ty49 : ty 49 = some ⟨.func, 1, 8, .nilf⟩ := rfl
theorem td49 : tdOf ty 49 = .func := rfl
theorem sz49 : szOf ty 49 = 1 := rfl
theorem ty50 : ty 50 = some ⟨.func, 1, 8, .nilf⟩ := rfl
theorem td50 : tdOf ty 50 = .func := rfl
theorem sz50 : szOf ty 50 = 1 := rfl
theorem ty51 : ty 51 = some ⟨.func, 1, 8, .nilf⟩ := rfl
theorem td51 : tdOf ty 51 = .func := rfl
theorem sz51 : szOf ty 51 = 1 := rfl
theorem ty52 : ty 52 = some ⟨.func, 1, 8, .nilf⟩ := rfl
theorem td52 : tdOf ty 52 = .func := rfl
theorem sz52 : szOf ty 52 = 1 := rfl
theorem ty53 : ty 53 = some ⟨.func, 1, 8, .nilf⟩ := rfl
theorem td53 : tdOf ty 53 = .func := rfl
theorem sz53 : szOf ty 53 = 1 := rfl
theorem ty55 : ty 55 = some ⟨.func, 1, 8, .nilf⟩ := rfl
theorem td55 : tdOf ty 55 = .func := rfl
theorem sz55 : szOf ty 55 = 1 := rfl
theorem ty56 : ty 56 = some ⟨.func, 1, 8, .nilf⟩ := rfl
theorem td56 : tdOf ty 56 = .func := rfl
theorem sz56 : szOf ty 56 = 1 := rfl
theorem ty57 : ty 57 = some ⟨.slice 70, 1, 24, .nils⟩ := rfl
theorem td57 : tdOf ty 57 = .slice 70 := rfl
theorem sz57 : szOf ty 57 = 1 := rfl
theorem ty58 : ty 58 = some ⟨.ptr 114, 1, 8, .nilp⟩ := rfl
theorem td58 : tdOf ty 58 = .ptr 114 := rfl
theorem sz58 : szOf ty 58 = 1 := rfl
theorem ty60 : ty 60 = some ⟨.func, 1, 8, .nilf⟩ := rfl
theorem td60 : tdOf ty 60 = .func := rfl
theorem sz60 : szOf ty 60 = 1 := rfl
theorem ty61 : ty 61 = some ⟨.slice 62, 1, 24, .nils⟩ := rfl
theorem td61 : tdOf ty 61 = .slice 62 := rfl
theorem sz61 : szOf ty 61 = 1 := rfl
theorem ty62 : ty 62 = some ⟨.slice 3, 1, 24, .nils⟩ := rfl
theorem td62 : tdOf ty 62 = .slice 3 := rfl
theorem sz62 : szOf ty 62 = 1 := rfl
theorem ty63 : ty 63 = some ⟨.struct [(0, 61), (1, 62), (2, 62), (3, 3)], 4, 80, .agg [.nils, .nils, .nils, .int .i64 0]⟩ := rfl
theorem td63 : tdOf ty 63 = .struct [(0, 61), (1, 62), (2, 62), (3, 3)] := rfl
theorem sz63 : szOf ty 63 = 4 := rfl
theorem ty64 : ty 64 = some ⟨.struct [(0, 61), (1, 62), (2, 62), (3, 3)], 4, 80, .agg [.nils, .nils, .nils, .int .i64 0]⟩ := rfl
theorem td64 : tdOf ty 64 = .struct [(0, 61), (1, 62), (2, 62), (3, 3)] := rfl
theorem sz64 : szOf ty 64 = 4 := rfl
theorem ty66 : ty 66 = some ⟨.func, 1, 8, .nilf⟩ := rfl
theorem td66 : tdOf ty 66 = .func := rfl
theorem sz66 : szOf ty 66 = 1 := rfl
theorem ty68 : ty 68 = some ⟨.func, 1, 8, .nilf⟩ := rfl
theorem td68 : tdOf ty 68 = .func := rfl
theorem sz68 : szOf ty 68 = 1 := rfl
theorem ty69 : ty 69 = some ⟨.struct [(0, 3), (1, 3)], 2, 16, .agg [.int .i64 0, .int .i64 0]⟩ := rfl
theorem td69 : tdOf ty 69 = .struct [(0, 3), (1, 3)] := rfl
theorem sz69 : szOf ty 69 = 2 := rfl
theorem ty70 : ty 70 = some ⟨.struct [(0, 3), (1, 3)], 2, 16, .agg [.int .i64 0, .int .i64 0]⟩ := rfl
theorem td70 : tdOf ty 70 = .struct [(0, 3), (1, 3)] := rfl
theorem sz70 : szOf ty 70 = 2 := rfl
theorem ty71 : ty 71 = some ⟨.func, 1, 8, .nilf⟩ := rfl
theorem td71 : tdOf ty 71 = .func := rfl
theorem sz71 : szOf ty 71 = 1 := rfl
theorem ty72 : ty 72 = some ⟨.func, 1, 8, .nilf⟩ := rfl
theorem td72 : tdOf ty 72 = .func := rfl
theorem sz72 : szOf ty 72 = 1 := rfl
theorem ty74 : ty 74 = some ⟨.func, 1, 8, .nilf⟩ := rfl
theorem td74 : tdOf ty 74 = .func := rfl
theorem sz74 : szOf ty 74 = 1 := rfl
theorem ty75 : ty 75 = some ⟨.func, 1, 8, .nilf⟩ := rfl
theorem td75 : tdOf ty 75 = .func := rfl
theorem sz75 : szOf ty 75 = 1 := rfl
theorem ty76 : ty 76 = some ⟨.func, 1, 8, .nilf⟩ := rfl
theorem td76 : tdOf ty 76 = .func := rfl
theorem sz76 : szOf ty 76 = 1 := rfl
theorem ty77 : ty 77 = some ⟨.func, 1, 8, .nilf⟩ := rfl
theorem td77 : tdOf ty 77 = .func := rfl
theorem sz77 : szOf ty 77 = 1 := rfl
theorem ty78 : ty 78 = some ⟨.func, 1, 8, .nilf⟩ := rfl
theorem td78 : tdOf ty 78 = .func := rfl
theorem sz78 : szOf ty 78 = 1 := rfl
theorem ty79 : ty 79 = some ⟨.func, 1, 8, .nilf⟩ := rfl
theorem td79 : tdOf ty 79 = .func := rfl
theorem sz79 : szOf ty 79 = 1 := rfl
theorem ty80 : ty 80 = some ⟨.func, 1, 8, .nilf⟩ := rfl
theorem td80 : tdOf ty 80 = .func := rfl
theorem sz80 : szOf ty 80 = 1 := rfl
theorem ty81 : ty 81 = some ⟨.func, 1, 8, .nilf⟩ := rfl
theorem td81 : tdOf ty 81 = .func := rfl
theorem sz81 : szOf ty 81 = 1 := rfl
theorem ty82 : ty 82 = some ⟨.func, 1, 8, .nilf⟩ := rfl
theorem td82 : tdOf ty 82 = .func := rfl
theorem sz82 : szOf ty 82 = 1 := rfl
theorem ty83 : ty 83 = some ⟨.func, 1, 8, .nilf⟩ := rfl
theorem td83 : tdOf ty 83 = .func := rfl
theorem sz83 : szOf ty 83 = 1 := rfl
theorem ty84 : ty 84 = some ⟨.func, 1, 8, .nilf⟩ := rfl
theorem td84 : tdOf ty 84 = .func := rfl
theorem sz84 : szOf ty 84 = 1 := rfl
theorem ty85 : ty 85 = some ⟨.func, 1, 8, .nilf⟩ := rfl
theorem td85 : tdOf ty 85 = .func := rfl
theorem sz85 : szOf ty 85 = 1 := rfl
theorem ty86 : ty 86 = some ⟨.func, 1, 8, .nilf⟩ := rfl
theorem td86 : tdOf ty 86 = .func := rfl
theorem sz86 : szOf ty 86 = 1 := rfl
theorem ty87 : ty 87 = some ⟨.struct [(0, 3), (1, 86), (2, 30)], 3, 40, .agg [.int .i64 0, .nilf, .nils]⟩ := rfl
theorem td87 : tdOf ty 87 = .struct [(0, 3), (1, 86), (2, 30)] := rfl
theorem sz87 : szOf ty 87 = 3 := rfl
theorem ty88 : ty 88 = some ⟨.struct [(0, 3), (1, 86), (2, 30)], 3, 40, .agg [.int .i64 0, .nilf, .nils]⟩ := rfl
theorem td88 : tdOf ty 88 = .struct [(0, 3), (1, 86), (2, 30)] := rfl
theorem sz88 : szOf ty 88 = 3 := rfl
theorem ty89 : ty 89 = some ⟨.func, 1, 8, .nilf⟩ := rfl
theorem td89 : tdOf ty 89 = .func := rfl
theorem sz89 : szOf ty 89 = 1 := rfl
theorem ty90 : ty 90 = some ⟨.struct [(0, 3), (1, 89), (2, 31)], 3, 40, .agg [.int .i64 0, .nilf, .nils]⟩ := rfl
theorem td90 : tdOf ty 90 = .struct [(0, 3), (1, 89), (2, 31)] := rfl
theorem sz90 : szOf ty 90 = 3 := rfl
theorem ty91 : ty 91 = some ⟨.struct [(0, 3), (1, 89), (2, 31)], 3, 40, .agg [.int .i64 0, .nilf, .nils]⟩ := rfl
theorem td91 : tdOf ty 91 = .struct [(0, 3), (1, 89), (2, 31)] := rfl
theorem sz91 : szOf ty 91 = 3 := rfl
theorem ty92 : ty 92 = some ⟨.struct [(0, 88), (3, 91)], 6, 80, .agg [.int .i64 0, .nilf, .nils, .int .i64 0, .nilf, .nils]⟩ := rfl
theorem td92 : tdOf ty 92 = .struct [(0, 88), (3, 91)] := rfl
theorem sz92 : szOf ty 92 = 6 := rfl
theorem ty93 : ty 93 = some ⟨.struct [(0, 88), (3, 91)], 6, 80, .agg [.int .i64 0, .nilf, .nils, .int .i64 0, .nilf, .nils]⟩ := rfl
theorem td93 : tdOf ty 93 = .struct [(0, 88), (3, 91)] := rfl
theorem sz93 : szOf ty 93 = 6 := rfl
theorem ty94 : ty 94 = some ⟨.ptr 98, 1, 8, .nilp⟩ := rfl
theorem td94 : tdOf ty 94 = .ptr 98 := rfl
theorem sz94 : szOf ty 94 = 1 := rfl
theorem ty95 : ty 95 = some ⟨.func, 1, 8, .nilf⟩ := rfl
theorem td95 : tdOf ty 95 = .func := rfl
theorem sz95 : szOf ty 95 = 1 := rfl
theorem ty96 : ty 96 = some ⟨.ptr 94, 1, 8, .nilp⟩ := rfl
theorem td96 : tdOf ty 96 = .ptr 94 := rfl
theorem sz96 : szOf ty 96 = 1 := rfl
theorem ty97 : ty 97 = some ⟨.struct [(0, 9), (1, 3), (2, 34), (3, 27)], 4, 48, .agg [.str ⟨#[]⟩, .int .i64 0, .int .i64 0, .nili]⟩ := rfl
theorem td97 : tdOf ty 97 = .struct [(0, 9), (1, 3), (2, 34), (3, 27)] := rfl
theorem sz97 : szOf ty 97 = 4 := rfl
theorem ty98 : ty 98 = some ⟨.struct [(0, 9), (1, 3), (2, 34), (3, 27)], 4, 48, .agg [.str ⟨#[]⟩, .int .i64 0, .int .i64 0, .nili]⟩ := rfl
theorem td98 : tdOf ty 98 = .struct [(0, 9), (1, 3), (2, 34), (3, 27)] := rfl
theorem sz98 : szOf ty 98 = 4 := rfl
theorem ty99 : ty 99 = some ⟨.func, 1, 8, .nilf⟩ := rfl
theorem td99 : tdOf ty 99 = .func := rfl
theorem sz99 : szOf ty 99 = 1 := rfl
theorem ty101 : ty 101 = some ⟨.func, 1, 8, .nilf⟩ := rfl
theorem td101 : tdOf ty 101 = .func := rfl
theorem sz101 : szOf ty 101 = 1 := rfl
theorem ty102 : ty 102 = some ⟨.func, 1, 8, .nilf⟩ := rfl
theorem td102 : tdOf ty 102 = .func := rfl
theorem sz102 : szOf ty 102 = 1 := rfl
theorem ty103 : ty 103 = some ⟨.func, 1, 8, .nilf⟩ := rfl
theorem td103 : tdOf ty 103 = .func := rfl
theorem sz103 : szOf ty 103 = 1 := rfl
theorem ty104 : ty 104 = some ⟨.func, 1, 8, .nilf⟩ := rfl
theorem td104 : tdOf ty 104 = .func := rfl
theorem sz104 : szOf ty 104 = 1 := rfl
theorem ty106 : ty 106 = some ⟨.func, 1, 8, .nilf⟩ := rfl
theorem td106 : tdOf ty 106 = .func := rfl
theorem sz106 : szOf ty 106 = 1 := rfl
theorem ty108 : ty 108 = some ⟨.func, 1, 8, .nilf⟩ := rfl
theorem td108 : tdOf ty 108 = .func := rfl
theorem sz108 : szOf ty 108 = 1 := rfl
theorem ty109 : ty 109 = some ⟨.func, 1, 8, .nilf⟩ := rfl
theorem td109 : tdOf ty 109 = .func := rfl
theorem sz109 : szOf ty 109 = 1 := rfl
theorem ty110 : ty 110 = some ⟨.func, 1, 8, .nilf⟩ := rfl
theorem td110 : tdOf ty 110 = .func := rfl
theorem sz110 : szOf ty 110 = 1 := rfl
theorem ty111 : ty 111 = some ⟨.func, 1, 8, .nilf⟩ := rfl
theorem td111 : tdOf ty 111 = .func := rfl
theorem sz111 : szOf ty 111 = 1 := rfl
theorem ty112 : ty 112 = some ⟨.slice 116, 1, 24, .nils⟩ := rfl
theorem td112 : tdOf ty 112 = .slice 116 := rfl
theorem sz112 : szOf ty 112 = 1 := rfl
theorem ty113 : ty 113 = some ⟨.struct [(0, 112), (1, 62), (2, 62), (3, 62), (4, 3), (5, 3)], 6, 112, .agg [.nils, .nils, .nils, .nils, .int .i64 0, .int .i64 0]⟩ := rfl
theorem td113 : tdOf ty 113 = .struct [(0, 112), (1, 62), (2, 62), (3, 62), (4, 3), (5, 3)] := rfl
theorem sz113 : szOf ty 113 = 6 := rfl
theorem ty114 : ty 114 = some ⟨.struct [(0, 112), (1, 62), (2, 62), (3, 62), (4, 3), (5, 3)], 6, 112, .agg [.nils, .nils, .nils, .nils, .int .i64 0, .int .i64 0]⟩ := rfl
theorem td114 : tdOf ty 114 = .struct [(0, 112), (1, 62), (2, 62), (3, 62), (4, 3), (5, 3)] := rfl
theorem sz114 : szOf ty 114 = 6 := rfl
theorem ty115 : ty 115 = some ⟨.struct [(0, 3), (1, 3), (2, 3), (3, 3)], 4, 32, .agg [.int .i64 0, .int .i64 0, .int .i64 0, .int .i64 0]⟩ := rfl
theorem td115 : tdOf ty 115 = .struct [(0, 3), (1, 3), (2, 3), (3, 3)] := rfl
theorem sz115 : szOf ty 115 = 4 := rfl
theorem ty116 : ty 116 = some ⟨.struct [(0, 3), (1, 3), (2, 3), (3, 3)], 4, 32, .agg [.int .i64 0, .int .i64 0, .int .i64 0, .int .i64 0]⟩ := rfl
theorem td116 : tdOf ty 116 = .struct [(0, 3), (1, 3), (2, 3), (3, 3)] := rfl
theorem sz116 : szOf ty 116 = 4 := rfl
theorem ty118 : ty 118 = some ⟨.func, 1, 8, .nilf⟩ := rfl
theorem td118 : tdOf ty 118 = .func := rfl
theorem sz118 : szOf ty 118 = 1 := rfl
theorem ty119 : ty 119 = some ⟨.func, 1, 8, .nilf⟩ := rfl
theorem td119 : tdOf ty 119 = .func := rfl
theorem sz119 : szOf ty 119 = 1 := rfl
theorem ty120 : ty 120 = some ⟨.func, 1, 8, .nilf⟩ := rfl
theorem td120 : tdOf ty 120 = .func := rfl
theorem sz120 : szOf ty 120 = 1 := rfl
theorem ty121 : ty 121 = some ⟨.func, 1, 8, .nilf⟩ := rfl
theorem td121 : tdOf ty 121 = .func := rfl
theorem sz121 : szOf ty 121 = 1 := rfl
theorem ty122 : ty 122 = some ⟨.func, 1, 8, .nilf⟩ := rfl
theorem td122 : tdOf ty 122 = .func := rfl
theorem sz122 : szOf ty 122 = 1 := rfl
theorem ty123 : ty 123 = some ⟨.func, 1, 8, .nilf⟩ := rfl
theorem td123 : tdOf ty 123 = .func := rfl
theorem sz123 : szOf ty 123 = 1 := rfl
theorem ty124 : ty 124 = some ⟨.func, 1, 8, .nilf⟩ := rfl
theorem td124 : tdOf ty 124 = .func := rfl
theorem sz124 : szOf ty 124 = 1 := rfl
theorem ty125 : ty 125 = some ⟨.func, 1, 8, .nilf⟩ := rfl
theorem td125 : tdOf ty 125 = .func := rfl
theorem sz125 : szOf ty 125 = 1 := rfl
theorem ty127 : ty 127 = some ⟨.int .u64, 1, 8, .int .u64 0⟩ := rfl
theorem td127 : tdOf ty 127 = .int .u64 := rfl
theorem sz127 : szOf ty 127 = 1 := rfl
theorem ty130 : ty 130 = some ⟨.func, 1, 8, .nilf⟩ := rfl
theorem td130 : tdOf ty 130 = .func := rfl
theorem sz130 : szOf ty 130 = 1 := rfl
theorem ty131 : ty 131 = some ⟨.iface, 1, 16, .nili⟩ := rfl
theorem td131 : tdOf ty 131 = .iface := rfl
theorem sz131 : szOf ty 131 = 1 := rfl
theorem ty132 : ty 132 = some ⟨.iface, 1, 16, .nili⟩ := rfl
theorem td132 : tdOf ty 132 = .iface := rfl
theorem sz132 : szOf ty 132 = 1 := rfl
theorem ty133 : ty 133 = some ⟨.func, 1, 8, .nilf⟩ := rfl
theorem td133 : tdOf ty 133 = .func := rfl
theorem sz133 : szOf ty 133 = 1 := rfl
theorem ty134 : ty 134 = some ⟨.int .u8, 1, 1, .int .u8 0⟩ := rfl
theorem td134 : tdOf ty 134 = .int .u8 := rfl
theorem sz134 : szOf ty 134 = 1 := rfl
theorem ty135 : ty 135 = some ⟨.func, 1, 8, .nilf⟩ := rfl
theorem td135 : tdOf ty 135 = .func := rfl
theorem sz135 : szOf ty 135 = 1 := rfl
theorem ty136 : ty 136 = some ⟨.func, 1, 8, .nilf⟩ := rfl
theorem td136 : tdOf ty 136 = .func := rfl
theorem sz136 : szOf ty 136 = 1 := rfl
theorem ty137 : ty 137 = some ⟨.func, 1, 8, .nilf⟩ := rfl
theorem td137 : tdOf ty 137 = .func := rfl
theorem sz137 : szOf ty 137 = 1 := rfl
theorem ty138 : ty 138 = some ⟨.func, 1, 8, .nilf⟩ := rfl
theorem td138 : tdOf ty 138 = .func := rfl
theorem sz138 : szOf ty 138 = 1 := rfl
theorem ty139 : ty 139 = some ⟨.func, 1, 8, .nilf⟩ := rfl
theorem td139 : tdOf ty 139 = .func := rfl
theorem sz139 : szOf ty 139 = 1 := rfl
theorem ty140 : ty 140 = some ⟨.ptr 88, 1, 8, .nilp⟩ := rfl
theorem td140 : tdOf ty 140 = .ptr 88 := rfl
theorem sz140 : szOf ty 140 = 1 := rfl
theorem ty141 : ty 141 = some ⟨.ptr 42, 1, 8, .nilp⟩ := rfl
theorem td141 : tdOf ty 141 = .ptr 42 := rfl
theorem sz141 : szOf ty 141 = 1 := rfl
theorem ty142 : ty 142 = some ⟨.func, 1, 8, .nilf⟩ := rfl
theorem td142 : tdOf ty 142 = .func := rfl
theorem sz142 : szOf ty 142 = 1 := rfl
theorem ty143 : ty 143 = some ⟨.func, 1, 8, .nilf⟩ := rfl
theorem td143 : tdOf ty 143 = .func := rfl
theorem sz143 : szOf ty 143 = 1 := rfl
theorem ty145 : ty 145 = some ⟨.func, 1, 8, .nilf⟩ := rfl
theorem td145 : tdOf ty 145 = .func := rfl
theorem sz145 : szOf ty 145 = 1 := rfl
theorem ty146 : ty 146 = some ⟨.func, 1, 8, .nilf⟩ := rfl
theorem td146 : tdOf ty 146 = .func := rfl
theorem sz146 : szOf ty 146 = 1 := rfl
theorem ty147 : ty 147 = some ⟨.func, 1, 8, .nilf⟩ := rfl
theorem td147 : tdOf ty 147 = .func := rfl
theorem sz147 : szOf ty 147 = 1 := rfl
theorem ty149 : ty 149 = some ⟨.func, 1, 8, .nilf⟩ := rfl
theorem td149 : tdOf ty 149 = .func := rfl
theorem sz149 : szOf ty 149 = 1 := rfl
theorem ty150 : ty 150 = some ⟨.struct [(0, 17)], 1, 8, .agg [.nilp]⟩ := rfl
theorem td150 : tdOf ty 150 = .struct [(0, 17)] := rfl
theorem sz150 : szOf ty 150 = 1 := rfl
theorem ty151 : ty 151 = some ⟨.struct [(0, 17)], 1, 8, .agg [.nilp]⟩ := rfl
theorem td151 : tdOf ty 151 = .struct [(0, 17)] := rfl
theorem sz151 : szOf ty 151 = 1 := rfl
theorem ty153 : ty 153 = some ⟨.func, 1, 8, .nilf⟩ := rfl
theorem td153 : tdOf ty 153 = .func := rfl
theorem sz153 : szOf ty 153 = 1 := rfl
theorem ty154 : ty 154 = some ⟨.func, 1, 8, .nilf⟩ := rfl
theorem td154 : tdOf ty 154 = .func := rfl
theorem sz154 : szOf ty 154 = 1 := rfl
theorem ty155 : ty 155 = some ⟨.func, 1, 8, .nilf⟩ := rfl
theorem td155 : tdOf ty 155 = .func := rfl
theorem sz155 : szOf ty 155 = 1 := rfl
theorem ty158 : ty 158 = some ⟨.func, 1, 8, .nilf⟩ := rfl
theorem td158 : tdOf ty 158 = .func := rfl
theorem sz158 : szOf ty 158 = 1 := rfl
theorem ty161 : ty 161 = some ⟨.iface, 1, 16, .nili⟩ := rfl
theorem td161 : tdOf ty 161 = .iface := rfl
theorem sz161 : szOf ty 161 = 1 := rfl
theorem ty162 : ty 162 = some ⟨.slice 27, 1, 24, .nils⟩ := rfl
theorem td162 : tdOf ty 162 = .slice 27 := rfl
theorem sz162 : szOf ty 162 = 1 := rfl
theorem ty163 : ty 163 = some ⟨.func, 1, 8, .nilf⟩ := rfl
theorem td163 : tdOf ty 163 = .func := rfl
theorem sz163 : szOf ty 163 = 1 := rfl
theorem ty165 : ty 165 = some ⟨.func, 1, 8, .nilf⟩ := rfl
theorem td165 : tdOf ty 165 = .func := rfl
theorem sz165 : szOf ty 165 = 1 := rfl
theorem ty166 : ty 166 = some ⟨.struct [(0, 17), (1, 17), (2, 17), (3, 9)], 4, 40, .agg [.nilp, .nilp, .nilp, .str ⟨#[]⟩]⟩ := rfl
theorem td166 : tdOf ty 166 = .struct [(0, 17), (1, 17), (2, 17), (3, 9)] := rfl
theorem sz166 : szOf ty 166 = 4 := rfl
theorem ty167 : ty 167 = some ⟨.struct [(0, 17), (1, 17), (2, 17), (3, 9)], 4, 40, .agg [.nilp, .nilp, .nilp, .str ⟨#[]⟩]⟩ := rfl
theorem td167 : tdOf ty 167 = .struct [(0, 17), (1, 17), (2, 17), (3, 9)] := rfl
theorem sz167 : szOf ty 167 = 4 := rfl
theorem ty171 : ty 171 = some ⟨.func, 1, 8, .nilf⟩ := rfl
theorem td171 : tdOf ty 171 = .func := rfl
theorem sz171 : szOf ty 171 = 1 := rfl
theorem ty173 : ty 173 = some ⟨.int .u8, 1, 1, .int .u8 0⟩ := rfl
theorem td173 : tdOf ty 173 = .int .u8 := rfl
theorem sz173 : szOf ty 173 = 1 := rfl
theorem ty174 : ty 174 = some ⟨.func, 1, 8, .nilf⟩ := rfl
theorem td174 : tdOf ty 174 = .func := rfl
theorem sz174 : szOf ty 174 = 1 := rfl
theorem ty175 : ty 175 = some ⟨.ptr 5, 1, 8, .nilp⟩ := rfl
theorem td175 : tdOf ty 175 = .ptr 5 := rfl
theorem sz175 : szOf ty 175 = 1 := rfl
theorem ty176 : ty 176 = some ⟨.int .i32, 1, 4, .int .i32 0⟩ := rfl
theorem td176 : tdOf ty 176 = .int .i32 := rfl
theorem sz176 : szOf ty 176 = 1 := rfl
theorem ty177 : ty 177 = some ⟨.int .i32, 1, 4, .int .i32 0⟩ := rfl
theorem td177 : tdOf ty 177 = .int .i32 := rfl
theorem sz177 : szOf ty 177 = 1 := rfl
theorem ty178 : ty 178 = some ⟨.struct [(0, 12), (1, 12), (2, 172), (3, 173), (4, 5), (5, 5), (6, 134), (7, 174), (8, 175), (9, 176), (10, 177)], 11, 48, .agg [.int .u64 0, .int .u64 0, .int .u32 0, .int .u8 0, .int .u8 0, .int .u8 0, .int .u8 0, .nilf, .nilp, .int .i32 0, .int .i32 0]⟩ := rfl
theorem td178 : tdOf ty 178 = .struct [(0, 12), (1, 12), (2, 172), (3, 173), (4, 5), (5, 5), (6, 134), (7, 174), (8, 175), (9, 176), (10, 177)] := rfl
theorem sz178 : szOf ty 178 = 11 := rfl
theorem ty179 : ty 179 = some ⟨.struct [(0, 12), (1, 12), (2, 172), (3, 173), (4, 5), (5, 5), (6, 134), (7, 174), (8, 175), (9, 176), (10, 177)], 11, 48, .agg [.int .u64 0, .int .u64 0, .int .u32 0, .int .u8 0, .int .u8 0, .int .u8 0, .int .u8 0, .nilf, .nilp, .int .i32 0, .int .i32 0]⟩ := rfl
theorem td179 : tdOf ty 179 = .struct [(0, 12), (1, 12), (2, 172), (3, 173), (4, 5), (5, 5), (6, 134), (7, 174), (8, 175), (9, 176), (10, 177)] := rfl
theorem sz179 : szOf ty 179 = 11 := rfl
theorem ty180 : ty 180 = some ⟨.func, 1, 8, .nilf⟩ := rfl
theorem td180 : tdOf ty 180 = .func := rfl
theorem sz180 : szOf ty 180 = 1 := rfl
theorem ty181 : ty 181 = some ⟨.func, 1, 8, .nilf⟩ := rfl
theorem td181 : tdOf ty 181 = .func := rfl
theorem sz181 : szOf ty 181 = 1 := rfl
theorem ty182 : ty 182 = some ⟨.func, 1, 8, .nilf⟩ := rfl
theorem td182 : tdOf ty 182 = .func := rfl
theorem sz182 : szOf ty 182 = 1 := rfl
theorem ty183 : ty 183 = some ⟨.struct [(0, 9), (1, 134)], 2, 24, .agg [.str ⟨#[]⟩, .int .u8 0]⟩ := rfl
theorem td183 : tdOf ty 183 = .struct [(0, 9), (1, 134)] := rfl
theorem sz183 : szOf ty 183 = 2 := rfl
theorem ty184 : ty 184 = some ⟨.struct [(0, 9), (1, 134)], 2, 24, .agg [.str ⟨#[]⟩, .int .u8 0]⟩ := rfl
theorem td184 : tdOf ty 184 = .struct [(0, 9), (1, 134)] := rfl
theorem sz184 : szOf ty 184 = 2 := rfl
theorem ty186 : ty 186 = some ⟨.func, 1, 8, .nilf⟩ := rfl
theorem td186 : tdOf ty 186 = .func := rfl
theorem sz186 : szOf ty 186 = 1 := rfl
theorem ty189 : ty 189 = some ⟨.struct [(0, 176), (1, 187), (2, 187), (3, 172), (4, 172)], 5, 16, .agg [.int .i32 0, .int .u16 0, .int .u16 0, .int .u32 0, .int .u32 0]⟩ := rfl
theorem td189 : tdOf ty 189 = .struct [(0, 176), (1, 187), (2, 187), (3, 172), (4, 172)] := rfl
theorem sz189 : szOf ty 189 = 5 := rfl
theorem ty191 : ty 191 = some ⟨.int .i32, 1, 4, .int .i32 0⟩ := rfl
theorem td191 : tdOf ty 191 = .int .i32 := rfl
theorem sz191 : szOf ty 191 = 1 := rfl
theorem ty192 : ty 192 = some ⟨.struct [(0, 176), (1, 177), (2, 191), (3, 191)], 4, 16, .agg [.int .i32 0, .int .i32 0, .int .i32 0, .int .i32 0]⟩ := rfl
theorem td192 : tdOf ty 192 = .struct [(0, 176), (1, 177), (2, 191), (3, 191)] := rfl
theorem sz192 : szOf ty 192 = 4 := rfl
theorem ty193 : ty 193 = some ⟨.struct [(0, 176), (1, 177), (2, 191), (3, 191)], 4, 16, .agg [.int .i32 0, .int .i32 0, .int .i32 0, .int .i32 0]⟩ := rfl
theorem td193 : tdOf ty 193 = .struct [(0, 176), (1, 177), (2, 191), (3, 191)] := rfl
theorem sz193 : szOf ty 193 = 4 := rfl
theorem ok1 : TiOk Tryd.prog 1 ⟨.func, 1, 8, .nilf⟩ := tiOk_mk (.nilFunc) ⟨_, _, _, Tryd.underlying1⟩ (by kernel_rfl) rfl rfl rfl (by simp [Value.cells, Value.oneCell'])
theorem ok2 : TiOk Tryd.prog 2 ⟨.int .i64, 1, 8, .int .i64 0⟩ := tiOk_mk (.int .i64 0) Tryd.underlying2 (by kernel_rfl) rfl rfl rfl (by simp [Value.cells, Value.oneCell'])
theorem ok3 : TiOk Tryd.prog 3 ⟨.int .i64, 1, 8, .int .i64 0⟩ := tiOk_mk (.int .i64 0) Tryd.underlying3 (by kernel_rfl) rfl rfl rfl (by simp [Value.cells, Value.oneCell'])
theorem ok4 : TiOk Tryd.prog 4 ⟨.bool, 1, 1, .bool false⟩ := tiOk_mk (.bool false) Tryd.underlying4 (by kernel_rfl) rfl rfl rfl (by simp [Value.cells, Value.oneCell'])
theorem ok5 : TiOk Tryd.prog 5 ⟨.int .u8, 1, 1, .int .u8 0⟩ := tiOk_mk (.int .u8 0) Tryd.underlying5 (by kernel_rfl) rfl rfl rfl (by simp [Value.cells, Value.oneCell'])
theorem ok6 : TiOk Tryd.prog 6 ⟨.int .u8, 1, 1, .int .u8 0⟩ := tiOk_mk (.int .u8 0) Tryd.underlying6 (by kernel_rfl) rfl rfl rfl (by simp [Value.cells, Value.oneCell'])
theorem ok7 : TiOk Tryd.prog 7 ⟨.struct [(0, 2), (1, 3), (2, 4), (3, 6)], 4, 24, .agg [.int .i64 0, .int .i64 0, .bool false, .int .u8 0]⟩ := tiOk_mk (.agg #[.int .i64 0, .int .i64 0, .bool false, .int .u8 0]) ⟨_, Tryd.underlying7, rfl⟩ (by kernel_rfl) rfl rfl rfl (by simp [Value.cells, Value.oneCell'])
theorem ok8 : TiOk Tryd.prog 8 ⟨.struct [(0, 2), (1, 3), (2, 4), (3, 6)], 4, 24, .agg [.int .i64 0, .int .i64 0, .bool false, .int .u8 0]⟩ := tiOk_mk (.agg #[.int .i64 0, .int .i64 0, .bool false, .int .u8 0]) ⟨_, Tryd.underlying8, rfl⟩ (by kernel_rfl) rfl rfl rfl (by simp [Value.cells, Value.oneCell'])
theorem ok9 : TiOk Tryd.prog 9 ⟨.str, 1, 16, .str ⟨#[]⟩⟩ := tiOk_mk (.string ⟨#[]⟩) Tryd.underlying9 (by kernel_rfl) rfl rfl rfl (by simp [Value.cells, Value.oneCell'])
theorem ok10 : TiOk Tryd.prog 10 ⟨.str, 1, 16, .str ⟨#[]⟩⟩ := tiOk_mk (.string ⟨#[]⟩) Tryd.underlying10 (by kernel_rfl) rfl rfl rfl (by simp [Value.cells, Value.oneCell'])
theorem ok11 : TiOk Tryd.prog 11 ⟨.str, 1, 16, .str ⟨#[]⟩⟩ := tiOk_mk (.string ⟨#[]⟩) Tryd.underlying11 (by kernel_rfl) rfl rfl rfl (by simp [Value.cells, Value.oneCell'])
theorem ok12 : TiOk Tryd.prog 12 ⟨.int .u64, 1, 8, .int .u64 0⟩ := tiOk_mk (.int .u64 0) Tryd.underlying12 (by kernel_rfl) rfl rfl rfl (by simp [Value.cells, Value.oneCell'])
theorem ok13 : TiOk Tryd.prog 13 ⟨.struct [(0, 9), (1, 12)], 2, 24, .agg [.str ⟨#[]⟩, .int .u64 0]⟩ := tiOk_mk (.agg #[.string ⟨#[]⟩, .int .u64 0]) ⟨_, Tryd.underlying13, rfl⟩ (by kernel_rfl) rfl rfl rfl (by simp [Value.cells, Value.oneCell'])
theorem ok14 : TiOk Tryd.prog 14 ⟨.struct [(0, 9), (1, 12)], 2, 24, .agg [.str ⟨#[]⟩, .int .u64 0]⟩ := tiOk_mk (.agg #[.string ⟨#[]⟩, .int .u64 0]) ⟨_, Tryd.underlying14, rfl⟩ (by kernel_rfl) rfl rfl rfl (by simp [Value.cells, Value.oneCell'])
theorem ok15 : TiOk Tryd.prog 15 ⟨.ptr 167, 1, 8, .nilp⟩ := tiOk_mk (.pointer none) Tryd.underlying15 (by kernel_rfl) rfl rfl rfl (by simp [Value.cells, Value.oneCell'])
theorem ok16 : TiOk Tryd.prog 16 ⟨.ptr 170, 1, 8, .nilp⟩ := tiOk_mk (.pointer none) Tryd.underlying16 (by kernel_rfl) rfl rfl rfl (by simp [Value.cells, Value.oneCell'])
theorem ok17 : TiOk Tryd.prog 17 ⟨.ptr 179, 1, 8, .nilp⟩ := tiOk_mk (.pointer none) Tryd.underlying17 (by kernel_rfl) rfl rfl rfl (by simp [Value.cells, Value.oneCell'])
theorem ok18 : TiOk Tryd.prog 18 ⟨.struct [(0, 17)], 1, 8, .agg [.nilp]⟩ := tiOk_mk (.agg #[.pointer none]) ⟨_, Tryd.underlying18, rfl⟩ (by kernel_rfl) rfl rfl rfl (by simp [Value.cells, Value.oneCell'])
theorem ok19 : TiOk Tryd.prog 19 ⟨.struct [(0, 17)], 1, 8, .agg [.nilp]⟩ := tiOk_mk (.agg #[.pointer none]) ⟨_, Tryd.underlying19, rfl⟩ (by kernel_rfl) rfl rfl rfl (by simp [Value.cells, Value.oneCell'])
theorem ok20 : TiOk Tryd.prog 20 ⟨.iface, 1, 16, .nili⟩ := tiOk_mk (.nilIface) ⟨_, Tryd.underlying20⟩ (by kernel_rfl) rfl rfl rfl (by simp [Value.cells, Value.oneCell'])
theorem ok21 : TiOk Tryd.prog 21 ⟨.int .i32, 1, 4, .int .i32 0⟩ := tiOk_mk (.int .i32 0) Tryd.underlying21 (by kernel_rfl) rfl rfl rfl (by simp [Value.cells, Value.oneCell'])
theorem ok22 : TiOk Tryd.prog 22 ⟨.slice 44, 1, 24, .nils⟩ := tiOk_mk (.slice none 0 0) Tryd.underlying22 (by kernel_rfl) rfl rfl rfl (by simp [Value.cells, Value.oneCell'])
theorem ok23 : TiOk Tryd.prog 23 ⟨.func, 1, 8, .nilf⟩ := tiOk_mk (.nilFunc) ⟨_, _, _, Tryd.underlying23⟩ (by kernel_rfl) rfl rfl rfl (by simp [Value.cells, Value.oneCell'])
theorem ok24 : TiOk Tryd.prog 24 ⟨.func, 1, 8, .nilf⟩ := tiOk_mk (.nilFunc) ⟨_, _, _, Tryd.underlying24⟩ (by kernel_rfl) rfl rfl rfl (by simp [Value.cells, Value.oneCell'])
theorem ok25 : TiOk Tryd.prog 25 ⟨.ptr 93, 1, 8, .nilp⟩ := tiOk_mk (.pointer none) Tryd.underlying25 (by kernel_rfl) rfl rfl rfl (by simp [Value.cells, Value.oneCell'])
theorem ok26 : TiOk Tryd.prog 26 ⟨.iface, 1, 16, .nili⟩ := tiOk_mk (.nilIface) ⟨_, Tryd.underlying26⟩ (by kernel_rfl) rfl rfl rfl (by simp [Value.cells, Value.oneCell'])
theorem ok27 : TiOk Tryd.prog 27 ⟨.iface, 1, 16, .nili⟩ := tiOk_mk (.nilIface) ⟨_, Tryd.underlying27⟩ (by kernel_rfl) rfl rfl rfl (by simp [Value.cells, Value.oneCell'])
theorem ok29 : TiOk Tryd.prog 29 ⟨.func, 1, 8, .nilf⟩ := tiOk_mk (.nilFunc) ⟨_, _, _, Tryd.underlying29⟩ (by kernel_rfl) rfl rfl rfl (by simp [Value.cells, Value.oneCell'])
theorem ok30 : TiOk Tryd.prog 30 ⟨.slice 42, 1, 24, .nils⟩ := tiOk_mk (.slice none 0 0) Tryd.underlying30 (by kernel_rfl) rfl rfl rfl (by simp [Value.cells, Value.oneCell'])
theorem ok31 : TiOk Tryd.prog 31 ⟨.slice 9, 1, 24, .nils⟩ := tiOk_mk (.slice none 0 0) Tryd.underlying31 (by kernel_rfl) rfl rfl rfl (by simp [Value.cells, Value.oneCell'])
theorem ok32 : TiOk Tryd.prog 32 ⟨.struct [(0, 3), (1, 30), (2, 31)], 3, 56, .agg [.int .i64 0, .nils, .nils]⟩ := tiOk_mk (.agg #[.int .i64 0, .slice none 0 0, .slice none 0 0]) ⟨_, Tryd.underlying32, rfl⟩ (by kernel_rfl) rfl rfl rfl (by simp [Value.cells, Value.oneCell'])
theorem ok33 : TiOk Tryd.prog 33 ⟨.struct [(0, 3), (1, 30), (2, 31)], 3, 56, .agg [.int .i64 0, .nils, .nils]⟩ := tiOk_mk (.agg #[.int .i64 0, .slice none 0 0, .slice none 0 0]) ⟨_, Tryd.underlying33, rfl⟩ (by kernel_rfl) rfl rfl rfl (by simp [Value.cells, Value.oneCell'])
theorem ok34 : TiOk Tryd.prog 34 ⟨.int .i64, 1, 8, .int .i64 0⟩ := tiOk_mk (.int .i64 0) Tryd.underlying34 (by kernel_rfl) rfl rfl rfl (by simp [Value.cells, Value.oneCell'])
theorem ok36 : TiOk Tryd.prog 36 ⟨.func, 1, 8, .nilf⟩ := tiOk_mk (.nilFunc) ⟨_, _, _, Tryd.underlying36⟩ (by kernel_rfl) rfl rfl rfl (by simp [Value.cells, Value.oneCell'])
theorem ok37 : TiOk Tryd.prog 37 ⟨.func, 1, 8, .nilf⟩ := tiOk_mk (.nilFunc) ⟨_, _, _, Tryd.underlying37⟩ (by kernel_rfl) rfl rfl rfl (by simp [Value.cells, Value.oneCell'])
theorem ok39 : TiOk Tryd.prog 39 ⟨.func, 1, 8, .nilf⟩ := tiOk_mk (.nilFunc) ⟨_, _, _, Tryd.underlying39⟩ (by kernel_rfl) rfl rfl rfl (by simp [Value.cells, Value.oneCell'])
theorem ok40 : TiOk Tryd.prog 40 ⟨.slice 5, 1, 24, .nils⟩ := tiOk_mk (.slice none 0 0) Tryd.underlying40 (by kernel_rfl) rfl rfl rfl (by simp [Value.cells, Value.oneCell'])
theorem ok41 : TiOk Tryd.prog 41 ⟨.struct [(0, 9), (1, 3), (2, 3), (3, 3), (4, 40)], 5, 64, .agg [.str ⟨#[]⟩, .int .i64 0, .int .i64 0, .int .i64 0, .nils]⟩ := tiOk_mk (.agg #[.string ⟨#[]⟩, .int .i64 0, .int .i64 0, .int .i64 0, .slice none 0 0]) ⟨_, Tryd.underlying41, rfl⟩ (by kernel_rfl) rfl rfl rfl (by simp [Value.cells, Value.oneCell'])
theorem ok42 : TiOk Tryd.prog 42 ⟨.struct [(0, 9), (1, 3), (2, 3), (3, 3), (4, 40)], 5, 64, .agg [.str ⟨#[]⟩, .int .i64 0, .int .i64 0, .int .i64 0, .nils]⟩ := tiOk_mk (.agg #[.string ⟨#[]⟩, .int .i64 0, .int .i64 0, .int .i64 0, .slice none 0 0]) ⟨_, Tryd.underlying42, rfl⟩ (by kernel_rfl) rfl rfl rfl (by simp [Value.cells, Value.oneCell'])
theorem ok43 : TiOk Tryd.prog 43 ⟨.struct [(0, 3), (1, 42)], 6, 72, .agg [.int .i64 0, .str ⟨#[]⟩, .int .i64 0, .int .i64 0, .int .i64 0, .nils]⟩ := tiOk_mk (.agg #[.int .i64 0, .string ⟨#[]⟩, .int .i64 0, .int .i64 0, .int .i64 0, .slice none 0 0]) ⟨_, Tryd.underlying43, rfl⟩ (by kernel_rfl) rfl rfl rfl (by simp [Value.cells, Value.oneCell'])
theorem ok44 : TiOk Tryd.prog 44 ⟨.struct [(0, 3), (1, 42)], 6, 72, .agg [.int .i64 0, .str ⟨#[]⟩, .int .i64 0, .int .i64 0, .int .i64 0, .nils]⟩ := tiOk_mk (.agg #[.int .i64 0, .string ⟨#[]⟩, .int .i64 0, .int .i64 0, .int .i64 0, .slice none 0 0]) ⟨_, Tryd.underlying44, rfl⟩ (by kernel_rfl) rfl rfl rfl (by simp [Value.cells, Value.oneCell'])
theorem ok45 : TiOk Tryd.prog 45 ⟨.func, 1, 8, .nilf⟩ := tiOk_mk (.nilFunc) ⟨_, _, _, Tryd.underlying45⟩ (by kernel_rfl) rfl rfl rfl (by simp [Value.cells, Value.oneCell'])
theorem ok46 : TiOk Tryd.prog 46 ⟨.func, 1, 8, .nilf⟩ := tiOk_mk (.nilFunc) ⟨_, _, _, Tryd.underlying46⟩ (by kernel_rfl) rfl rfl rfl (by simp [Value.cells, Value.oneCell'])
theorem ok47 : TiOk Tryd.prog 47 ⟨.func, 1, 8, .nilf⟩ := tiOk_mk (.nilFunc) ⟨_, _, _, Tryd.underlying47⟩ (by kernel_rfl) rfl rfl rfl (by simp [Value.cells, Value.oneCell'])
theorem ok48 : TiOk Tryd.prog 48 ⟨.func, 1, 8, .nilf⟩ := tiOk_mk (.nilFunc) ⟨_, _, _, Tryd.underlying48⟩ (by kernel_rfl) rfl rfl rfl (by simp [Value.cells, Value.oneCell'])
theorem ok49 : TiOk Tryd.prog 49 ⟨.func, 1, 8, .nilf⟩ := tiOk_mk (.nilFunc) ⟨_, _, _, Tryd.underlying49⟩ (by kernel_rfl) rfl rfl rfl (by simp [Value.cells, Value.oneCell'])
theorem ok50 : TiOk Tryd.prog 50 ⟨.func, 1, 8, .nilf⟩ := tiOk_mk (.nilFunc) ⟨_, _, _, Tryd.underlying50⟩ (by kernel_rfl) rfl rfl rfl (by simp [Value.cells, Value.oneCell'])
theorem ok51 : TiOk Tryd.prog 51 ⟨.func, 1, 8, .nilf⟩ := tiOk_mk (.nilFunc) ⟨_, _, _, Tryd.underlying51⟩ (by kernel_rfl) rfl rfl rfl (by simp [Value.cells, Value.oneCell'])
theorem ok52 : TiOk Tryd.prog 52 ⟨.func, 1, 8, .nilf⟩ := tiOk_mk (.nilFunc) ⟨_, _, _, Tryd.underlying52⟩ (by kernel_rfl) rfl rfl rfl (by simp [Value.cells, Value.oneCell'])
theorem ok53 : TiOk Tryd.prog 53 ⟨.func, 1, 8, .nilf⟩ := tiOk_mk (.nilFunc) ⟨_, _, _, Tryd.underlying53⟩ (by kernel_rfl) rfl rfl rfl (by simp [Value.cells, Value.oneCell'])
theorem ok55 : TiOk Tryd.prog 55 ⟨.func, 1, 8, .nilf⟩ := tiOk_mk (.nilFunc) ⟨_, _, _, Tryd.underlying55⟩ (by kernel_rfl) rfl rfl rfl (by simp [Value.cells, Value.oneCell'])
theorem ok56 : TiOk Tryd.prog 56 ⟨.func, 1, 8, .nilf⟩ := tiOk_mk (.nilFunc) ⟨_, _, _, Tryd.underlying56⟩ (by kernel_rfl) rfl rfl rfl (by simp [Value.cells, Value.oneCell'])
theorem ok57 : TiOk Tryd.prog 57 ⟨.slice 70, 1, 24, .nils⟩ := tiOk_mk (.slice none 0 0) Tryd.underlying57 (by kernel_rfl) rfl rfl rfl (by simp [Value.cells, Value.oneCell'])
theorem ok58 : TiOk Tryd.prog 58 ⟨.ptr 114, 1, 8, .nilp⟩ := tiOk_mk (.pointer none) Tryd.underlying58 (by kernel_rfl) rfl rfl rfl (by simp [Value.cells, Value.oneCell'])
theorem ok60 : TiOk Tryd.prog 60 ⟨.func, 1, 8, .nilf⟩ := tiOk_mk (.nilFunc) ⟨_, _, _, Tryd.underlying60⟩ (by kernel_rfl) rfl rfl rfl (by simp [Value.cells, Value.oneCell'])
theorem ok61 : TiOk Tryd.prog 61 ⟨.slice 62, 1, 24, .nils⟩ := tiOk_mk (.slice none 0 0) Tryd.underlying61 (by kernel_rfl) rfl rfl rfl (by simp [Value.cells, Value.oneCell'])
theorem ok62 : TiOk Tryd.prog 62 ⟨.slice 3, 1, 24, .nils⟩ := tiOk_mk (.slice none 0 0) Tryd.underlying62 (by kernel_rfl) rfl rfl rfl (by simp [Value.cells, Value.oneCell'])
theorem ok63 : TiOk Tryd.prog 63 ⟨.struct [(0, 61), (1, 62), (2, 62), (3, 3)], 4, 80, .agg [.nils, .nils, .nils, .int .i64 0]⟩ := tiOk_mk (.agg #[.slice none 0 0, .slice none 0 0, .slice none 0 0, .int .i64 0]) ⟨_, Tryd.underlying63, rfl⟩ (by kernel_rfl) rfl rfl rfl (by simp [Value.cells, Value.oneCell'])
theorem ok64 : TiOk Tryd.prog 64 ⟨.struct [(0, 61), (1, 62), (2, 62), (3, 3)], 4, 80, .agg [.nils, .nils, .nils, .int .i64 0]⟩ := tiOk_mk (.agg #[.slice none 0 0, .slice none 0 0, .slice none 0 0, .int .i64 0]) ⟨_, Tryd.underlying64, rfl⟩ (by kernel_rfl) rfl rfl rfl (by simp [Value.cells, Value.oneCell'])
theorem ok66 : TiOk Tryd.prog 66 ⟨.func, 1, 8, .nilf⟩ := tiOk_mk (.nilFunc) ⟨_, _, _, Tryd.underlying66⟩ (by kernel_rfl) rfl rfl rfl (by simp [Value.cells, Value.oneCell'])
theorem ok68 : TiOk Tryd.prog 68 ⟨.func, 1, 8, .nilf⟩ := tiOk_mk (.nilFunc) ⟨_, _, _, Tryd.underlying68⟩ (by kernel_rfl) rfl rfl rfl (by simp [Value.cells, Value.oneCell'])
theorem ok69 : TiOk Tryd.prog 69 ⟨.struct [(0, 3), (1, 3)], 2, 16, .agg [.int .i64 0, .int .i64 0]⟩ := tiOk_mk (.agg #[.int .i64 0, .int .i64 0]) ⟨_, Tryd.underlying69, rfl⟩ (by kernel_rfl) rfl rfl rfl (by simp [Value.cells, Value.oneCell'])
theorem ok70 : TiOk Tryd.prog 70 ⟨.struct [(0, 3), (1, 3)], 2, 16, .agg [.int .i64 0, .int .i64 0]⟩ := tiOk_mk (.agg #[.int .i64 0, .int .i64 0]) ⟨_, Tryd.underlying70, rfl⟩ (by kernel_rfl) rfl rfl rfl (by simp [Value.cells, Value.oneCell'])
theorem ok71 : TiOk Tryd.prog 71 ⟨.func, 1, 8, .nilf⟩ := tiOk_mk (.nilFunc) ⟨_, _, _, Tryd.underlying71⟩ (by kernel_rfl) rfl rfl rfl (by simp [Value.cells, Value.oneCell'])
theorem ok72 : TiOk Tryd.prog 72 ⟨.func, 1, 8, .nilf⟩ := tiOk_mk (.nilFunc) ⟨_, _, _, Tryd.underlying72⟩ (by kernel_rfl) rfl rfl rfl (by simp [Value.cells, Value.oneCell'])
theorem ok74 : TiOk Tryd.prog 74 ⟨.func, 1, 8, .nilf⟩ := tiOk_mk (.nilFunc) ⟨_, _, _, Tryd.underlying74⟩ (by kernel_rfl) rfl rfl rfl (by simp [Value.cells, Value.oneCell'])
theorem ok75 : TiOk Tryd.prog 75 ⟨.func, 1, 8, .nilf⟩ := tiOk_mk (.nilFunc) ⟨_, _, _, Tryd.underlying75⟩ (by kernel_rfl) rfl rfl rfl (by simp [Value.cells, Value.oneCell'])
theorem ok76 : TiOk Tryd.prog 76 ⟨.func, 1, 8, .nilf⟩ := tiOk_mk (.nilFunc) ⟨_, _, _, Tryd.underlying76⟩ (by kernel_rfl) rfl rfl rfl (by simp [Value.cells, Value.oneCell'])
theorem ok77 : TiOk Tryd.prog 77 ⟨.func, 1, 8, .nilf⟩ := tiOk_mk (.nilFunc) ⟨_, _, _, Tryd.underlying77⟩ (by kernel_rfl) rfl rfl rfl (by simp [Value.cells, Value.oneCell'])
theorem ok78 : TiOk Tryd.prog 78 ⟨.func, 1, 8, .nilf⟩ := tiOk_mk (.nilFunc) ⟨_, _, _, Tryd.underlying78⟩ (by kernel_rfl) rfl rfl rfl (by simp [Value.cells, Value.oneCell'])
theorem ok79 : TiOk Tryd.prog 79 ⟨.func, 1, 8, .nilf⟩ := tiOk_mk (.nilFunc) ⟨_, _, _, Tryd.underlying79⟩ (by kernel_rfl) rfl rfl rfl (by simp [Value.cells, Value.oneCell'])
theorem ok80 : TiOk Tryd.prog 80 ⟨.func, 1, 8, .nilf⟩ := tiOk_mk (.nilFunc) ⟨_, _, _, Tryd.underlying80⟩ (by kernel_rfl) rfl rfl rfl (by simp [Value.cells, Value.oneCell'])
theorem ok81 : TiOk Tryd.prog 81 ⟨.func, 1, 8, .nilf⟩ := tiOk_mk (.nilFunc) ⟨_, _, _, Tryd.underlying81⟩ (by kernel_rfl) rfl rfl rfl (by simp [Value.cells, Value.oneCell'])
theorem ok82 : TiOk Tryd.prog 82 ⟨.func, 1, 8, .nilf⟩ := tiOk_mk (.nilFunc) ⟨_, _, _, Tryd.underlying82⟩ (by kernel_rfl) rfl rfl rfl (by simp [Value.cells, Value.oneCell'])
theorem ok83 : TiOk Tryd.prog 83 ⟨.func, 1, 8, .nilf⟩ := tiOk_mk (.nilFunc) ⟨_, _, _, Tryd.underlying83⟩ (by kernel_rfl) rfl rfl rfl (by simp [Value.cells, Value.oneCell'])
theorem ok84 : TiOk Tryd.prog 84 ⟨.func, 1, 8, .nilf⟩ := tiOk_mk (.nilFunc) ⟨_, _, _, Tryd.underlying84⟩ (by kernel_rfl) rfl rfl rfl (by simp [Value.cells, Value.oneCell'])
theorem ok85 : TiOk Tryd.prog 85 ⟨.func, 1, 8, .nilf⟩ := tiOk_mk (.nilFunc) ⟨_, _, _, Tryd.underlying85⟩ (by kernel_rfl) rfl rfl rfl (by simp [Value.cells, Value.oneCell'])
theorem ok86 : TiOk Tryd.prog 86 ⟨.func, 1, 8, .nilf⟩ := tiOk_mk (.nilFunc) ⟨_, _, _, Tryd.underlying86⟩ (by kernel_rfl) rfl rfl rfl (by simp [Value.cells, Value.oneCell'])
theorem ok87 : TiOk Tryd.prog 87 ⟨.struct [(0, 3), (1, 86), (2, 30)], 3, 40, .agg [.int .i64 0, .nilf, .nils]⟩ := tiOk_mk (.agg #[.int .i64 0, .nilFunc, .slice none 0 0]) ⟨_, Tryd.underlying87, rfl⟩ (by kernel_rfl) rfl rfl rfl (by simp [Value.cells, Value.oneCell'])
theorem ok88 : TiOk Tryd.prog 88 ⟨.struct [(0, 3), (1, 86), (2, 30)], 3, 40, .agg [.int .i64 0, .nilf, .nils]⟩ := tiOk_mk (.agg #[.int .i64 0, .nilFunc, .slice none 0 0]) ⟨_, Tryd.underlying88, rfl⟩ (by kernel_rfl) rfl rfl rfl (by simp [Value.cells, Value.oneCell'])
theorem ok89 : TiOk Tryd.prog 89 ⟨.func, 1, 8, .nilf⟩ := tiOk_mk (.nilFunc) ⟨_, _, _, Tryd.underlying89⟩ (by kernel_rfl) rfl rfl rfl (by simp [Value.cells, Value.oneCell'])
theorem ok90 : TiOk Tryd.prog 90 ⟨.struct [(0, 3), (1, 89), (2, 31)], 3, 40, .agg [.int .i64 0, .nilf, .nils]⟩ := tiOk_mk (.agg #[.int .i64 0, .nilFunc, .slice none 0 0]) ⟨_, Tryd.underlying90, rfl⟩ (by kernel_rfl) rfl rfl rfl (by simp [Value.cells, Value.oneCell'])
theorem ok91 : TiOk Tryd.prog 91 ⟨.struct [(0, 3), (1, 89), (2, 31)], 3, 40, .agg [.int .i64 0, .nilf, .nils]⟩ := tiOk_mk (.agg #[.int .i64 0, .nilFunc, .slice none 0 0]) ⟨_, Tryd.underlying91, rfl⟩ (by kernel_rfl) rfl rfl rfl (by simp [Value.cells, Value.oneCell'])
theorem ok92 : TiOk Tryd.prog 92 ⟨.struct [(0, 88), (3, 91)], 6, 80, .agg [.int .i64 0, .nilf, .nils, .int .i64 0, .nilf, .nils]⟩ := tiOk_mk (.agg #[.int .i64 0, .nilFunc, .slice none 0 0, .int .i64 0, .nilFunc, .slice none 0 0]) ⟨_, Tryd.underlying92, rfl⟩ (by kernel_rfl) rfl rfl rfl (by simp [Value.cells, Value.oneCell'])
theorem ok93 : TiOk Tryd.prog 93 ⟨.struct [(0, 88), (3, 91)], 6, 80, .agg [.int .i64 0, .nilf, .nils, .int .i64 0, .nilf, .nils]⟩ := tiOk_mk (.agg #[.int .i64 0, .nilFunc, .slice none 0 0, .int .i64 0, .nilFunc, .slice none 0 0]) ⟨_, Tryd.underlying93, rfl⟩ (by kernel_rfl) rfl rfl rfl (by simp [Value.cells, Value.oneCell'])
theorem ok94 : TiOk Tryd.prog 94 ⟨.ptr 98, 1, 8, .nilp⟩ := tiOk_mk (.pointer none) Tryd.underlying94 (by kernel_rfl) rfl rfl rfl (by simp [Value.cells, Value.oneCell'])
theorem ok95 : TiOk Tryd.prog 95 ⟨.func, 1, 8, .nilf⟩ := tiOk_mk (.nilFunc) ⟨_, _, _, Tryd.underlying95⟩ (by kernel_rfl) rfl rfl rfl (by simp [Value.cells, Value.oneCell'])
theorem ok96 : TiOk Tryd.prog 96 ⟨.ptr 94, 1, 8, .nilp⟩ := tiOk_mk (.pointer none) Tryd.underlying96 (by kernel_rfl) rfl rfl rfl (by simp [Value.cells, Value.oneCell'])
theorem ok97 : TiOk Tryd.prog 97 ⟨.struct [(0, 9), (1, 3), (2, 34), (3, 27)], 4, 48, .agg [.str ⟨#[]⟩, .int .i64 0, .int .i64 0, .nili]⟩ := tiOk_mk (.agg #[.string ⟨#[]⟩, .int .i64 0, .int .i64 0, .nilIface]) ⟨_, Tryd.underlying97, rfl⟩ (by kernel_rfl) rfl rfl rfl (by simp [Value.cells, Value.oneCell'])
theorem ok98 : TiOk Tryd.prog 98 ⟨.struct [(0, 9), (1, 3), (2, 34), (3, 27)], 4, 48, .agg [.str ⟨#[]⟩, .int .i64 0, .int .i64 0, .nili]⟩ := tiOk_mk (.agg #[.string ⟨#[]⟩, .int .i64 0, .int .i64 0, .nilIface]) ⟨_, Tryd.underlying98, rfl⟩ (by kernel_rfl) rfl rfl rfl (by simp [Value.cells, Value.oneCell'])
theorem ok99 : TiOk Tryd.prog 99 ⟨.func, 1, 8, .nilf⟩ := tiOk_mk (.nilFunc) ⟨_, _, _, Tryd.underlying99⟩ (by kernel_rfl) rfl rfl rfl (by simp [Value.cells, Value.oneCell'])
theorem ok101 : TiOk Tryd.prog 101 ⟨.func, 1, 8, .nilf⟩ := tiOk_mk (.nilFunc) ⟨_, _, _, Tryd.underlying101⟩ (by kernel_rfl) rfl rfl rfl (by simp [Value.cells, Value.oneCell'])
theorem ok102 : TiOk Tryd.prog 102 ⟨.func, 1, 8, .nilf⟩ := tiOk_mk (.nilFunc) ⟨_, _, _, Tryd.underlying102⟩ (by kernel_rfl) rfl rfl rfl (by simp [Value.cells, Value.oneCell'])
theorem ok103 : TiOk Tryd.prog 103 ⟨.func, 1, 8, .nilf⟩ := tiOk_mk (.nilFunc) ⟨_, _, _, Tryd.underlying103⟩ (by kernel_rfl) rfl rfl rfl (by simp [Value.cells, Value.oneCell'])
theorem ok104 : TiOk Tryd.prog 104 ⟨.func, 1, 8, .nilf⟩ := tiOk_mk (.nilFunc) ⟨_, _, _, Tryd.underlying104⟩ (by kernel_rfl) rfl rfl rfl (by simp [Value.cells, Value.oneCell'])
theorem ok106 : TiOk Tryd.prog 106 ⟨.func, 1, 8, .nilf⟩ := tiOk_mk (.nilFunc) ⟨_, _, _, Tryd.underlying106⟩ (by kernel_rfl) rfl rfl rfl (by simp [Value.cells, Value.oneCell'])
theorem ok108 : TiOk Tryd.prog 108 ⟨.func, 1, 8, .nilf⟩ := tiOk_mk (.nilFunc) ⟨_, _, _, Tryd.underlying108⟩ (by kernel_rfl) rfl rfl rfl (by simp [Value.cells, Value.oneCell'])
theorem ok109 : TiOk Tryd.prog 109 ⟨.func, 1, 8, .nilf⟩ := tiOk_mk (.nilFunc) ⟨_, _, _, Tryd.underlying109⟩ (by kernel_rfl) rfl rfl rfl (by simp [Value.cells, Value.oneCell'])
theorem ok110 : TiOk Tryd.prog 110 ⟨.func, 1, 8, .nilf⟩ := tiOk_mk (.nilFunc) ⟨_, _, _, Tryd.underlying110⟩ (by kernel_rfl) rfl rfl rfl (by simp [Value.cells, Value.oneCell'])
theorem ok111 : TiOk Tryd.prog 111 ⟨.func, 1, 8, .nilf⟩ := tiOk_mk (.nilFunc) ⟨_, _, _, Tryd.underlying111⟩ (by kernel_rfl) rfl rfl rfl (by simp [Value.cells, Value.oneCell'])
theorem ok112 : TiOk Tryd.prog 112 ⟨.slice 116, 1, 24, .nils⟩ := tiOk_mk (.slice none 0 0) Tryd.underlying112 (by kernel_rfl) rfl rfl rfl (by simp [Value.cells, Value.oneCell'])
theorem ok113 : TiOk Tryd.prog 113 ⟨.struct [(0, 112), (1, 62), (2, 62), (3, 62), (4, 3), (5, 3)], 6, 112, .agg [.nils, .nils, .nils, .nils, .int .i64 0, .int .i64 0]⟩ := tiOk_mk (.agg #[.slice none 0 0, .slice none 0 0, .slice none 0 0, .slice none 0 0, .int .i64 0, .int .i64 0]) ⟨_, Tryd.underlying113, rfl⟩ (by kernel_rfl) rfl rfl rfl (by simp [Value.cells, Value.oneCell'])
theorem ok114 : TiOk Tryd.prog 114 ⟨.struct [(0, 112), (1, 62), (2, 62), (3, 62), (4, 3), (5, 3)], 6, 112, .agg [.nils, .nils, .nils, .nils, .int .i64 0, .int .i64 0]⟩ := tiOk_mk (.agg #[.slice none 0 0, .slice none 0 0, .slice none 0 0, .slice none 0 0, .int .i64 0, .int .i64 0]) ⟨_, Tryd.underlying114, rfl⟩ (by kernel_rfl) rfl rfl rfl (by simp [Value.cells, Value.oneCell'])
theorem ok115 : TiOk Tryd.prog 115 ⟨.struct [(0, 3), (1, 3), (2, 3), (3, 3)], 4, 32, .agg [.int .i64 0, .int .i64 0, .int .i64 0, .int .i64 0]⟩ := tiOk_mk (.agg #[.int .i64 0, .int .i64 0, .int .i64 0, .int .i64 0]) ⟨_, Tryd.underlying115, rfl⟩ (by kernel_rfl) rfl rfl rfl (by simp [Value.cells, Value.oneCell'])
theorem ok116 : TiOk Tryd.prog 116 ⟨.struct [(0, 3), (1, 3), (2, 3), (3, 3)], 4, 32, .agg [.int .i64 0, .int .i64 0, .int .i64 0, .int .i64 0]⟩ := tiOk_mk (.agg #[.int .i64 0, .int .i64 0, .int .i64 0, .int .i64 0]) ⟨_, Tryd.underlying116, rfl⟩ (by kernel_rfl) rfl rfl rfl (by simp [Value.cells, Value.oneCell'])
theorem ok118 : TiOk Tryd.prog 118 ⟨.func, 1, 8, .nilf⟩ := tiOk_mk (.nilFunc) ⟨_, _, _, Tryd.underlying118⟩ (by kernel_rfl) rfl rfl rfl (by simp [Value.cells, Value.oneCell'])
theorem ok119 : TiOk Tryd.prog 119 ⟨.func, 1, 8, .nilf⟩ := tiOk_mk (.nilFunc) ⟨_, _, _, Tryd.underlying119⟩ (by kernel_rfl) rfl rfl rfl (by simp [Value.cells, Value.oneCell'])
theorem ok120 : TiOk Tryd.prog 120 ⟨.func, 1, 8, .nilf⟩ := tiOk_mk (.nilFunc) ⟨_, _, _, Tryd.underlying120⟩ (by kernel_rfl) rfl rfl rfl (by simp [Value.cells, Value.oneCell'])
theorem ok121 : TiOk Tryd.prog 121 ⟨.func, 1, 8, .nilf⟩ := tiOk_mk (.nilFunc) ⟨_, _, _, Tryd.underlying121⟩ (by kernel_rfl) rfl rfl rfl (by simp [Value.cells, Value.oneCell'])
theorem ok122 : TiOk Tryd.prog 122 ⟨.func, 1, 8, .nilf⟩ := tiOk_mk (.nilFunc) ⟨_, _, _, Tryd.underlying122⟩ (by kernel_rfl) rfl rfl rfl (by simp [Value.cells, Value.oneCell'])
theorem ok123 : TiOk Tryd.prog 123 ⟨.func, 1, 8, .nilf⟩ := tiOk_mk (.nilFunc) ⟨_, _, _, Tryd.underlying123⟩ (by kernel_rfl) rfl rfl rfl (by simp [Value.cells, Value.oneCell'])
theorem ok124 : TiOk Tryd.prog 124 ⟨.func, 1, 8, .nilf⟩ := tiOk_mk (.nilFunc) ⟨_, _, _, Tryd.underlying124⟩ (by kernel_rfl) rfl rfl rfl (by simp [Value.cells, Value.oneCell'])
theorem ok125 : TiOk Tryd.prog 125 ⟨.func, 1, 8, .nilf⟩ := tiOk_mk (.nilFunc) ⟨_, _, _, Tryd.underlying125⟩ (by kernel_rfl) rfl rfl rfl (by simp [Value.cells, Value.oneCell'])
theorem ok127 : TiOk Tryd.prog 127 ⟨.int .u64, 1, 8, .int .u64 0⟩ := tiOk_mk (.int .u64 0) Tryd.underlying127 (by kernel_rfl) rfl rfl rfl (by simp [Value.cells, Value.oneCell'])
theorem ok130 : TiOk Tryd.prog 130 ⟨.func, 1, 8, .nilf⟩ := tiOk_mk (.nilFunc) ⟨_, _, _, Tryd.underlying130⟩ (by kernel_rfl) rfl rfl rfl (by simp [Value.cells, Value.oneCell'])
theorem ok131 : TiOk Tryd.prog 131 ⟨.iface, 1, 16, .nili⟩ := tiOk_mk (.nilIface) ⟨_, Tryd.underlying131⟩ (by kernel_rfl) rfl rfl rfl (by simp [Value.cells, Value.oneCell'])
theorem ok132 : TiOk Tryd.prog 132 ⟨.iface, 1, 16, .nili⟩ := tiOk_mk (.nilIface) ⟨_, Tryd.underlying132⟩ (by kernel_rfl) rfl rfl rfl (by simp [Value.cells, Value.oneCell'])
theorem ok133 : TiOk Tryd.prog 133 ⟨.func, 1, 8, .nilf⟩ := tiOk_mk (.nilFunc) ⟨_, _, _, Tryd.underlying133⟩ (by kernel_rfl) rfl rfl rfl (by simp [Value.cells, Value.oneCell'])
theorem ok134 : TiOk Tryd.prog 134 ⟨.int .u8, 1, 1, .int .u8 0⟩ := tiOk_mk (.int .u8 0) Tryd.underlying134 (by kernel_rfl) rfl rfl rfl (by simp [Value.cells, Value.oneCell'])
theorem ok135 : TiOk Tryd.prog 135 ⟨.func, 1, 8, .nilf⟩ := tiOk_mk (.nilFunc) ⟨_, _, _, Tryd.underlying135⟩ (by kernel_rfl) rfl rfl rfl (by simp [Value.cells, Value.oneCell'])
theorem ok136 : TiOk Tryd.prog 136 ⟨.func, 1, 8, .nilf⟩ := tiOk_mk (.nilFunc) ⟨_, _, _, Tryd.underlying136⟩ (by kernel_rfl) rfl rfl rfl (by simp [Value.cells, Value.oneCell'])
theorem ok137 : TiOk Tryd.prog 137 ⟨.func, 1, 8, .nilf⟩ := tiOk_mk (.nilFunc) ⟨_, _, _, Tryd.underlying137⟩ (by kernel_rfl) rfl rfl rfl (by simp [Value.cells, Value.oneCell'])
theorem ok138 : TiOk Tryd.prog 138 ⟨.func, 1, 8, .nilf⟩ := tiOk_mk (.nilFunc) ⟨_, _, _, Tryd.underlying138⟩ (by kernel_rfl) rfl rfl rfl (by simp [Value.cells, Value.oneCell'])
theorem ok139 : TiOk Tryd.prog 139 ⟨.func, 1, 8, .nilf⟩ := tiOk_mk (.nilFunc) ⟨_, _, _, Tryd.underlying139⟩ (by kernel_rfl) rfl rfl rfl (by simp [Value.cells, Value.oneCell'])
theorem ok140 : TiOk Tryd.prog 140 ⟨.ptr 88, 1, 8, .nilp⟩ := tiOk_mk (.pointer none) Tryd.underlying140 (by kernel_rfl) rfl rfl rfl (by simp [Value.cells, Value.oneCell'])
theorem ok141 : TiOk Tryd.prog 141 ⟨.ptr 42, 1, 8, .nilp⟩ := tiOk_mk (.pointer none) Tryd.underlying141 (by kernel_rfl) rfl rfl rfl (by simp [Value.cells, Value.oneCell'])
theorem ok142 : TiOk Tryd.prog 142 ⟨.func, 1, 8, .nilf⟩ := tiOk_mk (.nilFunc) ⟨_, _, _, Tryd.underlying142⟩ (by kernel_rfl) rfl rfl rfl (by simp [Value.cells, Value.oneCell'])
theorem ok143 : TiOk Tryd.prog 143 ⟨.func, 1, 8, .nilf⟩ := tiOk_mk (.nilFunc) ⟨_, _, _, Tryd.underlying143⟩ (by kernel_rfl) rfl rfl rfl (by simp [Value.cells, Value.oneCell'])
theorem ok145 : TiOk Tryd.prog 145 ⟨.func, 1, 8, .nilf⟩ := tiOk_mk (.nilFunc) ⟨_, _, _, Tryd.underlying145⟩ (by kernel_rfl) rfl rfl rfl (by simp [Value.cells, Value.oneCell'])
theorem ok146 : TiOk Tryd.prog 146 ⟨.func, 1, 8, .nilf⟩ := tiOk_mk (.nilFunc) ⟨_, _, _, Tryd.underlying146⟩ (by kernel_rfl) rfl rfl rfl (by simp [Value.cells, Value.oneCell'])
theorem ok147 : TiOk Tryd.prog 147 ⟨.func, 1, 8, .nilf⟩ := tiOk_mk (.nilFunc) ⟨_, _, _, Tryd.underlying147⟩ (by kernel_rfl) rfl rfl rfl (by simp [Value.cells, Value.oneCell'])
theorem ok149 : TiOk Tryd.prog 149 ⟨.func, 1, 8, .nilf⟩ := tiOk_mk (.nilFunc) ⟨_, _, _, Tryd.underlying149⟩ (by kernel_rfl) rfl rfl rfl (by simp [Value.cells, Value.oneCell'])
theorem ok150 : TiOk Tryd.prog 150 ⟨.struct [(0, 17)], 1, 8, .agg [.nilp]⟩ := tiOk_mk (.agg #[.pointer none]) ⟨_, Tryd.underlying150, rfl⟩ (by kernel_rfl) rfl rfl rfl (by simp [Value.cells, Value.oneCell'])
theorem ok151 : TiOk Tryd.prog 151 ⟨.struct [(0, 17)], 1, 8, .agg [.nilp]⟩ := tiOk_mk (.agg #[.pointer none]) ⟨_, Tryd.underlying151, rfl⟩ (by kernel_rfl) rfl rfl rfl (by simp [Value.cells, Value.oneCell'])
theorem ok153 : TiOk Tryd.prog 153 ⟨.func, 1, 8, .nilf⟩ := tiOk_mk (.nilFunc) ⟨_, _, _, Tryd.underlying153⟩ (by kernel_rfl) rfl rfl rfl (by simp [Value.cells, Value.oneCell'])
theorem ok154 : TiOk Tryd.prog 154 ⟨.func, 1, 8, .nilf⟩ := tiOk_mk (.nilFunc) ⟨_, _, _, Tryd.underlying154⟩ (by kernel_rfl) rfl rfl rfl (by simp [Value.cells, Value.oneCell'])
theorem ok155 : TiOk Tryd.prog 155 ⟨.func, 1, 8, .nilf⟩ := tiOk_mk (.nilFunc) ⟨_, _, _, Tryd.underlying155⟩ (by kernel_rfl) rfl rfl rfl (by simp [Value.cells, Value.oneCell'])
theorem ok158 : TiOk Tryd.prog 158 ⟨.func, 1, 8, .nilf⟩ := tiOk_mk (.nilFunc) ⟨_, _, _, Tryd.underlying158⟩ (by kernel_rfl) rfl rfl rfl (by simp [Value.cells, Value.oneCell'])
theorem ok161 : TiOk Tryd.prog 161 ⟨.iface, 1, 16, .nili⟩ := tiOk_mk (.nilIface) ⟨_, Tryd.underlying161⟩ (by kernel_rfl) rfl rfl rfl (by simp [Value.cells, Value.oneCell'])
theorem ok162 : TiOk Tryd.prog 162 ⟨.slice 27, 1, 24, .nils⟩ := tiOk_mk (.slice none 0 0) Tryd.underlying162 (by kernel_rfl) rfl rfl rfl (by simp [Value.cells, Value.oneCell'])
theorem ok163 : TiOk Tryd.prog 163 ⟨.func, 1, 8, .nilf⟩ := tiOk_mk (.nilFunc) ⟨_, _, _, Tryd.underlying163⟩ (by kernel_rfl) rfl rfl rfl (by simp [Value.cells, Value.oneCell'])
theorem ok165 : TiOk Tryd.prog 165 ⟨.func, 1, 8, .nilf⟩ := tiOk_mk (.nilFunc) ⟨_, _, _, Tryd.underlying165⟩ (by kernel_rfl) rfl rfl rfl (by simp [Value.cells, Value.oneCell'])
theorem ok166 : TiOk Tryd.prog 166 ⟨.struct [(0, 17), (1, 17), (2, 17), (3, 9)], 4, 40, .agg [.nilp, .nilp, .nilp, .str ⟨#[]⟩]⟩ := tiOk_mk (.agg #[.pointer none, .pointer none, .pointer none, .string ⟨#[]⟩]) ⟨_, Tryd.underlying166, rfl⟩ (by kernel_rfl) rfl rfl rfl (by simp [Value.cells, Value.oneCell'])
theorem ok167 : TiOk Tryd.prog 167 ⟨.struct [(0, 17), (1, 17), (2, 17), (3, 9)], 4, 40, .agg [.nilp, .nilp, .nilp, .str ⟨#[]⟩]⟩ := tiOk_mk (.agg #[.pointer none, .pointer none, .pointer none, .string ⟨#[]⟩]) ⟨_, Tryd.underlying167, rfl⟩ (by kernel_rfl) rfl rfl rfl (by simp [Value.cells, Value.oneCell'])
theorem ok171 : TiOk Tryd.prog 171 ⟨.func, 1, 8, .nilf⟩ := tiOk_mk (.nilFunc) ⟨_, _, _, Tryd.underlying171⟩ (by kernel_rfl) rfl rfl rfl (by simp [Value.cells, Value.oneCell'])
theorem ok173 : TiOk Tryd.prog 173 ⟨.int .u8, 1, 1, .int .u8 0⟩ := tiOk_mk (.int .u8 0) Tryd.underlying173 (by kernel_rfl) rfl rfl rfl (by simp [Value.cells, Value.oneCell'])
theorem ok174 : TiOk Tryd.prog 174 ⟨.func, 1, 8, .nilf⟩ := tiOk_mk (.nilFunc) ⟨_, _, _, Tryd.underlying174⟩ (by kernel_rfl) rfl rfl rfl (by simp [Value.cells, Value.oneCell'])
theorem ok175 : TiOk Tryd.prog 175 ⟨.ptr 5, 1, 8, .nilp⟩ := tiOk_mk (.pointer none) Tryd.underlying175 (by kernel_rfl) rfl rfl rfl (by simp [Value.cells, Value.oneCell'])
theorem ok176 : TiOk Tryd.prog 176 ⟨.int .i32, 1, 4, .int .i32 0⟩ := tiOk_mk (.int .i32 0) Tryd.underlying176 (by kernel_rfl) rfl rfl rfl (by simp [Value.cells, Value.oneCell'])
theorem ok177 : TiOk Tryd.prog 177 ⟨.int .i32, 1, 4, .int .i32 0⟩ := tiOk_mk (.int .i32 0) Tryd.underlying177 (by kernel_rfl) rfl rfl rfl (by simp [Value.cells, Value.oneCell'])
theorem ok178 : TiOk Tryd.prog 178 ⟨.struct [(0, 12), (1, 12), (2, 172), (3, 173), (4, 5), (5, 5), (6, 134), (7, 174), (8, 175), (9, 176), (10, 177)], 11, 48, .agg [.int .u64 0, .int .u64 0, .int .u32 0, .int .u8 0, .int .u8 0, .int .u8 0, .int .u8 0, .nilf, .nilp, .int .i32 0, .int .i32 0]⟩ := tiOk_mk (.agg #[.int .u64 0, .int .u64 0, .int .u32 0, .int .u8 0, .int .u8 0, .int .u8 0, .int .u8 0, .nilFunc, .pointer none, .int .i32 0, .int .i32 0]) ⟨_, Tryd.underlying178, rfl⟩ (by kernel_rfl) rfl rfl rfl (by simp [Value.cells, Value.oneCell'])
theorem ok179 : TiOk Tryd.prog 179 ⟨.struct [(0, 12), (1, 12), (2, 172), (3, 173), (4, 5), (5, 5), (6, 134), (7, 174), (8, 175), (9, 176), (10, 177)], 11, 48, .agg [.int .u64 0, .int .u64 0, .int .u32 0, .int .u8 0, .int .u8 0, .int .u8 0, .int .u8 0, .nilf, .nilp, .int .i32 0, .int .i32 0]⟩ := tiOk_mk (.agg #[.int .u64 0, .int .u64 0, .int .u32 0, .int .u8 0, .int .u8 0, .int .u8 0, .int .u8 0, .nilFunc, .pointer none, .int .i32 0, .int .i32 0]) ⟨_, Tryd.underlying179, rfl⟩ (by kernel_rfl) rfl rfl rfl (by simp [Value.cells, Value.oneCell'])
theorem ok180 : TiOk Tryd.prog 180 ⟨.func, 1, 8, .nilf⟩ := tiOk_mk (.nilFunc) ⟨_, _, _, Tryd.underlying180⟩ (by kernel_rfl) rfl rfl rfl (by simp [Value.cells, Value.oneCell'])
theorem ok181 : TiOk Tryd.prog 181 ⟨.func, 1, 8, .nilf⟩ := tiOk_mk (.nilFunc) ⟨_, _, _, Tryd.underlying181⟩ (by kernel_rfl) rfl rfl rfl (by simp [Value.cells, Value.oneCell'])
theorem ok182 : TiOk Tryd.prog 182 ⟨.func, 1, 8, .nilf⟩ := tiOk_mk (.nilFunc) ⟨_, _, _, Tryd.underlying182⟩ (by kernel_rfl) rfl rfl rfl (by simp [Value.cells, Value.oneCell'])
theorem ok183 : TiOk Tryd.prog 183 ⟨.struct [(0, 9), (1, 134)], 2, 24, .agg [.str ⟨#[]⟩, .int .u8 0]⟩ := tiOk_mk (.agg #[.string ⟨#[]⟩, .int .u8 0]) ⟨_, Tryd.underlying183, rfl⟩ (by kernel_rfl) rfl rfl rfl (by simp [Value.cells, Value.oneCell'])
theorem ok184 : TiOk Tryd.prog 184 ⟨.struct [(0, 9), (1, 134)], 2, 24, .agg [.str ⟨#[]⟩, .int .u8 0]⟩ := tiOk_mk (.agg #[.string ⟨#[]⟩, .int .u8 0]) ⟨_, Tryd.underlying184, rfl⟩ (by kernel_rfl) rfl rfl rfl (by simp [Value.cells, Value.oneCell'])
theorem ok186 : TiOk Tryd.prog 186 ⟨.func, 1, 8, .nilf⟩ := tiOk_mk (.nilFunc) ⟨_, _, _, Tryd.underlying186⟩ (by kernel_rfl) rfl rfl rfl (by simp [Value.cells, Value.oneCell'])
theorem ok189 : TiOk Tryd.prog 189 ⟨.struct [(0, 176), (1, 187), (2, 187), (3, 172), (4, 172)], 5, 16, .agg [.int .i32 0, .int .u16 0, .int .u16 0, .int .u32 0, .int .u32 0]⟩ := tiOk_mk (.agg #[.int .i32 0, .int .u16 0, .int .u16 0, .int .u32 0, .int .u32 0]) ⟨_, Tryd.underlying189, rfl⟩ (by kernel_rfl) rfl rfl rfl (by simp [Value.cells, Value.oneCell'])
theorem ok191 : TiOk Tryd.prog 191 ⟨.int .i32, 1, 4, .int .i32 0⟩ := tiOk_mk (.int .i32 0) Tryd.underlying191 (by kernel_rfl) rfl rfl rfl (by simp [Value.cells, Value.oneCell'])
theorem ok192 : TiOk Tryd.prog 192 ⟨.struct [(0, 176), (1, 177), (2, 191), (3, 191)], 4, 16, .agg [.int .i32 0, .int .i32 0, .int .i32 0, .int .i32 0]⟩ := tiOk_mk (.agg #[.int .i32 0, .int .i32 0, .int .i32 0, .int .i32 0]) ⟨_, Tryd.underlying192, rfl⟩ (by kernel_rfl) rfl rfl rfl (by simp [Value.cells, Value.oneCell'])
theorem ok193 : TiOk Tryd.prog 193 ⟨.struct [(0, 176), (1, 177), (2, 191), (3, 191)], 4, 16, .agg [.int .i32 0, .int .i32 0, .int .i32 0, .int .i32 0]⟩ := tiOk_mk (.agg #[.int .i32 0, .int .i32 0, .int .i32 0, .int .i32 0]) ⟨_, Tryd.underlying193, rfl⟩ (by kernel_rfl) rfl rfl rfl (by simp [Value.cells, Value.oneCell'])
theorem tk_0 : TyOk Tryd.prog ty_0 := by
  intro t i h
  unfold ty_0 at h
  split at h
  · cases h; exact ok1
  · cases h; exact ok2
  · cases h; exact ok3
  · cases h; exact ok4
  · cases h; exact ok5
  · cases h; exact ok6
  · cases h; exact ok7
  · cases h; exact ok8
  · cases h; exact ok9
  · cases h; exact ok10
  · cases h; exact ok11
  · cases h; exact ok12
  · cases h; exact ok13
  · cases h; exact ok14
  · cases h; exact ok15
  · cases h; exact ok16
  · cases h; exact ok17
  · cases h; exact ok18
  · cases h; exact ok19
  · cases h; exact ok20
  · cases h; exact ok21
  · cases h; exact ok22
  · cases h; exact ok23
  · cases h; exact ok24
  · cases h; exact ok25
  · cases h; exact ok26
  · cases h; exact ok27
  · cases h; exact ok29
  · cases h; exact ok30
  · cases h; exact ok31
  · cases h; exact ok32
  · cases h; exact ok33
  · cases h; exact ok34
  · cases h; exact ok36
  · cases h; exact ok37
  · cases h; exact ok39
  · cases h; exact ok40
  · cases h; exact ok41
  · cases h; exact ok42
  · cases h; exact ok43
  · cases h; exact ok44
  · cases h; exact ok45
  · cases h; exact ok46
  · cases h; exact ok47
  · cases h; exact ok48
  · cases h; exact ok49
  · cases h; exact ok50
  · cases h; exact ok51
  · cases h; exact ok52
  · cases h; exact ok53
  · cases h; exact ok55
  · cases h; exact ok56
  · cases h; exact ok57
  · cases h; exact ok58
  · cases h; exact ok60
  · cases h; exact ok61
  · cases h; exact ok62
  · cases h; exact ok63
  · cases h; exact ok64
  · cases h; exact ok66
  · cases h
theorem tk_1 : TyOk Tryd.prog ty_1 := by
  intro t i h
  unfold ty_1 at h
  split at h
  · cases h; exact ok68
  · cases h; exact ok69
  · cases h; exact ok70
  · cases h; exact ok71
  · cases h; exact ok72
  · cases h; exact ok74
  · cases h; exact ok75
  · cases h; exact ok76
  · cases h; exact ok77
  · cases h; exact ok78
  · cases h; exact ok79
  · cases h; exact ok80
  · cases h; exact ok81
  · cases h; exact ok82
  · cases h; exact ok83
  · cases h; exact ok84
  · cases h; exact ok85
  · cases h; exact ok86
  · cases h; exact ok87
  · cases h; exact ok88
  · cases h; exact ok89
  · cases h; exact ok90
  · cases h; exact ok91
  · cases h; exact ok92
  · cases h; exact ok93
  · cases h; exact ok94
  · cases h; exact ok95
  · cases h; exact ok96
  · cases h; exact ok97
  · cases h; exact ok98
  · cases h; exact ok99
  · cases h; exact ok101
  · cases h; exact ok102
  · cases h; exact ok103
  · cases h; exact ok104
  · cases h; exact ok106
  · cases h; exact ok108
  · cases h; exact ok109
  · cases h; exact ok110
  · cases h; exact ok111
  · cases h; exact ok112
  · cases h; exact ok113
  · cases h; exact ok114
  · cases h; exact ok115
  · cases h; exact ok116
  · cases h; exact ok118
  · cases h; exact ok119
  · cases h; exact ok120
  · cases h; exact ok121
  · cases h; exact ok122
  · cases h; exact ok123
  · cases h; exact ok124
  · cases h; exact ok125
  · cases h; exact ok127
  · cases h; exact ok130
  · cases h; exact ok131
  · cases h; exact ok132
  · cases h; exact ok133
  · cases h; exact ok134
  · cases h; exact ok135
  · cases h
theorem tk_2 : TyOk Tryd.prog ty_2 := by
  intro t i h
  unfold ty_2 at h
  split at h
  · cases h; exact ok136
  · cases h; exact ok137
  · cases h; exact ok138
  · cases h; exact ok139
  · cases h; exact ok140
  · cases h; exact ok141
  · cases h; exact ok142
  · cases h; exact ok143
  · cases h; exact ok145
  · cases h; exact ok146
  · cases h; exact ok147
  · cases h; exact ok149
  · cases h; exact ok150
  · cases h; exact ok151
  · cases h; exact ok153
  · cases h; exact ok154
  · cases h; exact ok155
  · cases h; exact ok158
  · cases h; exact ok161
  · cases h; exact ok162
  · cases h; exact ok163
  · cases h; exact ok165
  · cases h; exact ok166
  · cases h; exact ok167
  · cases h; exact ok171
  · cases h; exact ok173
  · cases h; exact ok174
  · cases h; exact ok175
  · cases h; exact ok176
  · cases h; exact ok177
  · cases h; exact ok178
  · cases h; exact ok179
  · cases h; exact ok180
  · cases h; exact ok181
  · cases h; exact ok182
  · cases h; exact ok183
  · cases h; exact ok184
  · cases h; exact ok186
  · cases h; exact ok189
  · cases h; exact ok191
  · cases h; exact ok192
  · cases h; exact ok193
  · cases h
theorem tk : TyOk Tryd.prog ty := by
  intro t i h
  unfold ty at h
  cases hb0 : Nat.ble t 66
  case true => simp only [hb0, cond_true] at h; exact tk_0 t i h
  cases hb1 : Nat.ble t 135
  case true => simp only [hb1, cond_true, hb0, cond_false] at h; exact tk_1 t i h
  simp only [hb0, hb1, cond_false] at h
  exact tk_2 t i h
theorem mixed : Tryd.prog.follows .mixedOrders = true := by kernel_rfl
end Go.Proofs.YtobbifgmjkgkfaaDoor
namespace Go.Proofs.YtobbifgmjkgkfaaDoor
open Go Go.Va
set_option linter.unusedSimpArgs false
set_option linter.unusedVariables false
/-- Errors, as values: none; a fault, with what is under it. -/
inductive Err where
  | nil
  | fault (op : List (BitVec 8)) (at_ : Int) (code : Int) (under : Err)
  deriving DecidableEq
def Err.isNil : Err → Bool
  | .nil => true
  | _ => false
def eErr : Err → AV
  | .nil => .nili
  | .fault o a c u => .iface 94 (.fptr [eS o, eI a, eI c, eErr u] 0)
theorem eErr_cut (nl nt : Nat → Option Nat) : ∀ e, cutAV nl nt (eErr e) = eErr e
  | .nil => rfl
  | .fault o a c u => by simp only [eErr, cutAV, cutL, eErr_cut nl nt u, eS, eI]
theorem eErr_flat (e : Err) : flatAV (eErr e) = true := by cases e <;> rfl
theorem nsp_err (e : Err) : spcl [eErr e] = false := by cases e <;> rfl
theorem encErr : Enc ty 27 1 eErr := ⟨sz27, by decide, fun x => (by cases x <;> rfl), fun h => (by cases h), fun _ x => (by cases x <;> rfl), fun x => (by cases x <;> rfl), eErr_cut⟩
structure runtime_boundsError where
  x : Int
  y : Int
  signed : Bool
  code : BitVec 8
  deriving DecidableEq
def c_runtime_boundsError (x : runtime_boundsError) : List AV := [eI x.x, eI x.y, eB x.signed, (@eU .u8 8) x.code]
def e_runtime_boundsError (x : runtime_boundsError) : AV := .agg (c_runtime_boundsError x)
def z_runtime_boundsError : runtime_boundsError := ⟨(0 : Int), (0 : Int), false, 0#8⟩
theorem c_runtime_boundsError_cut (nl nt : Nat → Option Nat) (x : runtime_boundsError) : cutL nl nt (c_runtime_boundsError x) = c_runtime_boundsError x := by simp only [cutL, e_runtime_boundsError, c_runtime_boundsError, cutAV, (enc_i64 td2 sz2).cut nl nt, (enc_i64 td3 sz3).cut nl nt, (enc_b td4 sz4).cut nl nt, (enc_u td6 sz6).cut nl nt]
theorem pc_runtime_boundsError (x : runtime_boundsError) : purL (c_runtime_boundsError x) = true := by simp only [c_runtime_boundsError, purL, purL_append, Bool.and_self, Bool.and_true, (show purA (eI x.x) = true from (fun _ => rfl) _), (show purA (eI x.y) = true from (fun _ => rfl) _), (show purA (eB x.signed) = true from (fun _ => rfl) _), (show purA ((@eU .u8 8) x.code) = true from (fun _ => rfl) _)]
theorem pur_runtime_boundsError (x : runtime_boundsError) : purA (e_runtime_boundsError x) = true := pc_runtime_boundsError x
theorem enc7 : Enc ty 7 4 e_runtime_boundsError := ⟨sz7, by decide, fun _ => rfl, fun _ _ => rfl, fun h => (by cases h), fun _ => rfl, fun nl nt x => by simp only [e_runtime_boundsError, cutAV, c_runtime_boundsError_cut]⟩
theorem enc8 : Enc ty 8 4 e_runtime_boundsError := ⟨sz8, by decide, fun _ => rfl, fun _ _ => rfl, fun h => (by cases h), fun _ => rfl, fun nl nt x => by simp only [e_runtime_boundsError, cutAV, c_runtime_boundsError_cut]⟩
structure runtime_errorAddressString where
  msg : List (BitVec 8)
  addr : BitVec 64
  deriving DecidableEq
def c_runtime_errorAddressString (x : runtime_errorAddressString) : List AV := [eS x.msg, (@eU .u64 64) x.addr]
def e_runtime_errorAddressString (x : runtime_errorAddressString) : AV := .agg (c_runtime_errorAddressString x)
def z_runtime_errorAddressString : runtime_errorAddressString := ⟨([] : List (BitVec 8)), 0#64⟩
theorem c_runtime_errorAddressString_cut (nl nt : Nat → Option Nat) (x : runtime_errorAddressString) : cutL nl nt (c_runtime_errorAddressString x) = c_runtime_errorAddressString x := by simp only [cutL, e_runtime_errorAddressString, c_runtime_errorAddressString, cutAV, (enc_s td9 sz9).cut nl nt, (enc_u td12 sz12).cut nl nt]
theorem pc_runtime_errorAddressString (x : runtime_errorAddressString) : purL (c_runtime_errorAddressString x) = true := by simp only [c_runtime_errorAddressString, purL, purL_append, Bool.and_self, Bool.and_true, (show purA (eS x.msg) = true from (fun _ => rfl) _), (show purA ((@eU .u64 64) x.addr) = true from (fun _ => rfl) _)]
theorem pur_runtime_errorAddressString (x : runtime_errorAddressString) : purA (e_runtime_errorAddressString x) = true := pc_runtime_errorAddressString x
theorem enc13 : Enc ty 13 2 e_runtime_errorAddressString := ⟨sz13, by decide, fun _ => rfl, fun _ _ => rfl, fun h => (by cases h), fun _ => rfl, fun nl nt x => by simp only [e_runtime_errorAddressString, cutAV, c_runtime_errorAddressString_cut]⟩
theorem enc14 : Enc ty 14 2 e_runtime_errorAddressString := ⟨sz14, by decide, fun _ => rfl, fun _ _ => rfl, fun h => (by cases h), fun _ => rfl, fun nl nt x => by simp only [e_runtime_errorAddressString, cutAV, c_runtime_errorAddressString_cut]⟩
structure api_Entry where
  Key : List (BitVec 8)
  Version : Int
  AsOf : Int
  Ends : Int
  Value : List (BitVec 8)
  deriving DecidableEq
def c_api_Entry (x : api_Entry) : List AV := [eS x.Key, eI x.Version, eI x.AsOf, eI x.Ends, (eL 1 (@eU .u8 8)) x.Value]
def e_api_Entry (x : api_Entry) : AV := .agg (c_api_Entry x)
def z_api_Entry : api_Entry := ⟨([] : List (BitVec 8)), (0 : Int), (0 : Int), (0 : Int), ([] : List (BitVec 8))⟩
theorem c_api_Entry_cut (nl nt : Nat → Option Nat) (x : api_Entry) : cutL nl nt (c_api_Entry x) = c_api_Entry x := by simp only [cutL, e_api_Entry, c_api_Entry, cutAV, (enc_s td9 sz9).cut nl nt, (enc_i64 td3 sz3).cut nl nt, (enc_i64 td3 sz3).cut nl nt, (enc_i64 td3 sz3).cut nl nt, (enc_l td40 sz40 (enc_u td5 sz5).cut).cut nl nt]
theorem pc_api_Entry (x : api_Entry) : purL (c_api_Entry x) = true := by simp only [c_api_Entry, purL, purL_append, Bool.and_self, Bool.and_true, (show purA (eS x.Key) = true from (fun _ => rfl) _), (show purA (eI x.Version) = true from (fun _ => rfl) _), (show purA (eI x.AsOf) = true from (fun _ => rfl) _), (show purA (eI x.Ends) = true from (fun _ => rfl) _), (show purA ((eL 1 (@eU .u8 8)) x.Value) = true from (pur_eL (fun _ => rfl)) _)]
theorem pur_api_Entry (x : api_Entry) : purA (e_api_Entry x) = true := pc_api_Entry x
theorem enc41 : Enc ty 41 5 e_api_Entry := ⟨sz41, by decide, fun _ => rfl, fun _ _ => rfl, fun h => (by cases h), fun _ => rfl, fun nl nt x => by simp only [e_api_Entry, cutAV, c_api_Entry_cut]⟩
theorem enc42 : Enc ty 42 5 e_api_Entry := ⟨sz42, by decide, fun _ => rfl, fun _ _ => rfl, fun h => (by cases h), fun _ => rfl, fun nl nt x => by simp only [e_api_Entry, cutAV, c_api_Entry_cut]⟩
structure butteryref19_Jobs where
  Limit : Int
  Down : List api_Entry
  Up : List (List (BitVec 8))
  deriving DecidableEq
def c_butteryref19_Jobs (x : butteryref19_Jobs) : List AV := [eI x.Limit, (eL 5 e_api_Entry) x.Down, (eL 1 eS) x.Up]
def e_butteryref19_Jobs (x : butteryref19_Jobs) : AV := .agg (c_butteryref19_Jobs x)
def z_butteryref19_Jobs : butteryref19_Jobs := ⟨(0 : Int), ([] : List api_Entry), ([] : List (List (BitVec 8)))⟩
theorem c_butteryref19_Jobs_cut (nl nt : Nat → Option Nat) (x : butteryref19_Jobs) : cutL nl nt (c_butteryref19_Jobs x) = c_butteryref19_Jobs x := by simp only [cutL, e_butteryref19_Jobs, c_butteryref19_Jobs, cutAV, (enc_i64 td3 sz3).cut nl nt, (enc_l td30 sz30 enc42.cut).cut nl nt, (enc_l td31 sz31 (enc_s td9 sz9).cut).cut nl nt]
theorem pc_butteryref19_Jobs (x : butteryref19_Jobs) : purL (c_butteryref19_Jobs x) = true := by simp only [c_butteryref19_Jobs, purL, purL_append, Bool.and_self, Bool.and_true, (show purA (eI x.Limit) = true from (fun _ => rfl) _), (show purA ((eL 5 e_api_Entry) x.Down) = true from (pur_eL pur_api_Entry) _), (show purA ((eL 1 eS) x.Up) = true from (pur_eL (fun _ => rfl)) _)]
theorem pur_butteryref19_Jobs (x : butteryref19_Jobs) : purA (e_butteryref19_Jobs x) = true := pc_butteryref19_Jobs x
theorem enc32 : Enc ty 32 3 e_butteryref19_Jobs := ⟨sz32, by decide, fun _ => rfl, fun _ _ => rfl, fun h => (by cases h), fun _ => rfl, fun nl nt x => by simp only [e_butteryref19_Jobs, cutAV, c_butteryref19_Jobs_cut]⟩
theorem enc33 : Enc ty 33 3 e_butteryref19_Jobs := ⟨sz33, by decide, fun _ => rfl, fun _ _ => rfl, fun h => (by cases h), fun _ => rfl, fun nl nt x => by simp only [e_butteryref19_Jobs, cutAV, c_butteryref19_Jobs_cut]⟩
structure butterylaw19_Op where
  Kind : Int
  X : api_Entry
  deriving DecidableEq
def c_butterylaw19_Op (x : butterylaw19_Op) : List AV := [eI x.Kind] ++ (c_api_Entry x.X)
def e_butterylaw19_Op (x : butterylaw19_Op) : AV := .agg (c_butterylaw19_Op x)
def z_butterylaw19_Op : butterylaw19_Op := ⟨(0 : Int), z_api_Entry⟩
theorem c_butterylaw19_Op_cut (nl nt : Nat → Option Nat) (x : butterylaw19_Op) : cutL nl nt (c_butterylaw19_Op x) = c_butterylaw19_Op x := by simp only [cutL, e_butterylaw19_Op, c_butterylaw19_Op, cutAV, (enc_i64 td3 sz3).cut nl nt, c_api_Entry_cut nl nt, cutL_append]
theorem pc_butterylaw19_Op (x : butterylaw19_Op) : purL (c_butterylaw19_Op x) = true := by simp only [c_butterylaw19_Op, purL, purL_append, Bool.and_self, Bool.and_true, (show purA (eI x.Kind) = true from (fun _ => rfl) _), pc_api_Entry x.X]
theorem pur_butterylaw19_Op (x : butterylaw19_Op) : purA (e_butterylaw19_Op x) = true := pc_butterylaw19_Op x
theorem enc43 : Enc ty 43 6 e_butterylaw19_Op := ⟨sz43, by decide, fun _ => rfl, fun _ _ => rfl, fun h => (by cases h), fun _ => rfl, fun nl nt x => by simp only [e_butterylaw19_Op, cutAV, c_butterylaw19_Op_cut]⟩
theorem enc44 : Enc ty 44 6 e_butterylaw19_Op := ⟨sz44, by decide, fun _ => rfl, fun _ _ => rfl, fun h => (by cases h), fun _ => rfl, fun nl nt x => by simp only [e_butterylaw19_Op, cutAV, c_butterylaw19_Op_cut]⟩
structure butteryref09_Lists where
  L : List (List Int)
  Free : List Int
  Used : List Int
  Nodes : Int
  deriving DecidableEq
def c_butteryref09_Lists (x : butteryref09_Lists) : List AV := [(eL 1 (eL 1 eI)) x.L, (eL 1 eI) x.Free, (eL 1 eI) x.Used, eI x.Nodes]
def e_butteryref09_Lists (x : butteryref09_Lists) : AV := .agg (c_butteryref09_Lists x)
def z_butteryref09_Lists : butteryref09_Lists := ⟨([] : List (List Int)), ([] : List Int), ([] : List Int), (0 : Int)⟩
theorem c_butteryref09_Lists_cut (nl nt : Nat → Option Nat) (x : butteryref09_Lists) : cutL nl nt (c_butteryref09_Lists x) = c_butteryref09_Lists x := by simp only [cutL, e_butteryref09_Lists, c_butteryref09_Lists, cutAV, (enc_l td61 sz61 (enc_l td62 sz62 (enc_i64 td3 sz3).cut).cut).cut nl nt, (enc_l td62 sz62 (enc_i64 td3 sz3).cut).cut nl nt, (enc_l td62 sz62 (enc_i64 td3 sz3).cut).cut nl nt, (enc_i64 td3 sz3).cut nl nt]
theorem pc_butteryref09_Lists (x : butteryref09_Lists) : purL (c_butteryref09_Lists x) = true := by simp only [c_butteryref09_Lists, purL, purL_append, Bool.and_self, Bool.and_true, (show purA ((eL 1 (eL 1 eI)) x.L) = true from (pur_eL (pur_eL (fun _ => rfl))) _), (show purA ((eL 1 eI) x.Free) = true from (pur_eL (fun _ => rfl)) _), (show purA ((eL 1 eI) x.Used) = true from (pur_eL (fun _ => rfl)) _), (show purA (eI x.Nodes) = true from (fun _ => rfl) _)]
theorem pur_butteryref09_Lists (x : butteryref09_Lists) : purA (e_butteryref09_Lists x) = true := pc_butteryref09_Lists x
theorem enc63 : Enc ty 63 4 e_butteryref09_Lists := ⟨sz63, by decide, fun _ => rfl, fun _ _ => rfl, fun h => (by cases h), fun _ => rfl, fun nl nt x => by simp only [e_butteryref09_Lists, cutAV, c_butteryref09_Lists_cut]⟩
theorem enc64 : Enc ty 64 4 e_butteryref09_Lists := ⟨sz64, by decide, fun _ => rfl, fun _ _ => rfl, fun h => (by cases h), fun _ => rfl, fun nl nt x => by simp only [e_butteryref09_Lists, cutAV, c_butteryref09_Lists_cut]⟩
structure butterylaw09_Op where
  Kind : Int
  At : Int
  deriving DecidableEq
def c_butterylaw09_Op (x : butterylaw09_Op) : List AV := [eI x.Kind, eI x.At]
def e_butterylaw09_Op (x : butterylaw09_Op) : AV := .agg (c_butterylaw09_Op x)
def z_butterylaw09_Op : butterylaw09_Op := ⟨(0 : Int), (0 : Int)⟩
theorem c_butterylaw09_Op_cut (nl nt : Nat → Option Nat) (x : butterylaw09_Op) : cutL nl nt (c_butterylaw09_Op x) = c_butterylaw09_Op x := by simp only [cutL, e_butterylaw09_Op, c_butterylaw09_Op, cutAV, (enc_i64 td3 sz3).cut nl nt, (enc_i64 td3 sz3).cut nl nt]
theorem pc_butterylaw09_Op (x : butterylaw09_Op) : purL (c_butterylaw09_Op x) = true := by simp only [c_butterylaw09_Op, purL, purL_append, Bool.and_self, Bool.and_true, (show purA (eI x.Kind) = true from (fun _ => rfl) _), (show purA (eI x.At) = true from (fun _ => rfl) _)]
theorem pur_butterylaw09_Op (x : butterylaw09_Op) : purA (e_butterylaw09_Op x) = true := pc_butterylaw09_Op x
theorem enc69 : Enc ty 69 2 e_butterylaw09_Op := ⟨sz69, by decide, fun _ => rfl, fun _ _ => rfl, fun h => (by cases h), fun _ => rfl, fun nl nt x => by simp only [e_butterylaw09_Op, cutAV, c_butterylaw09_Op_cut]⟩
theorem enc70 : Enc ty 70 2 e_butterylaw09_Op := ⟨sz70, by decide, fun _ => rfl, fun _ _ => rfl, fun h => (by cases h), fun _ => rfl, fun nl nt x => by simp only [e_butterylaw09_Op, cutAV, c_butterylaw09_Op_cut]⟩
structure trouble_fault where
  op : List (BitVec 8)
  at_ : Int
  code : Int
  under : Err
  deriving DecidableEq
def c_trouble_fault (x : trouble_fault) : List AV := [eS x.op, eI x.at_, eI x.code, eErr x.under]
def e_trouble_fault (x : trouble_fault) : AV := .agg (c_trouble_fault x)
def z_trouble_fault : trouble_fault := ⟨([] : List (BitVec 8)), (0 : Int), (0 : Int), Err.nil⟩
theorem c_trouble_fault_cut (nl nt : Nat → Option Nat) (x : trouble_fault) : cutL nl nt (c_trouble_fault x) = c_trouble_fault x := by simp only [cutL, e_trouble_fault, c_trouble_fault, cutAV, (enc_s td9 sz9).cut nl nt, (enc_i64 td3 sz3).cut nl nt, (enc_i64 td34 sz34).cut nl nt, encErr.cut nl nt]
theorem enc97 : Enc ty 97 4 e_trouble_fault := ⟨sz97, by decide, fun _ => rfl, fun _ _ => rfl, fun h => (by cases h), fun x => (by simp only [e_trouble_fault, c_trouble_fault, AV.cells, List.all_cons, List.all_nil, eErr_flat]; rfl), fun nl nt x => by simp only [e_trouble_fault, cutAV, c_trouble_fault_cut]⟩
theorem enc98 : Enc ty 98 4 e_trouble_fault := ⟨sz98, by decide, fun _ => rfl, fun _ _ => rfl, fun h => (by cases h), fun x => (by simp only [e_trouble_fault, c_trouble_fault, AV.cells, List.all_cons, List.all_nil, eErr_flat]; rfl), fun nl nt x => by simp only [e_trouble_fault, cutAV, c_trouble_fault_cut]⟩
structure lists_link where
  ahead : Int
  behind : Int
  list : Int
  used : Int
  deriving DecidableEq
def c_lists_link (x : lists_link) : List AV := [eI x.ahead, eI x.behind, eI x.list, eI x.used]
def e_lists_link (x : lists_link) : AV := .agg (c_lists_link x)
def z_lists_link : lists_link := ⟨(0 : Int), (0 : Int), (0 : Int), (0 : Int)⟩
theorem c_lists_link_cut (nl nt : Nat → Option Nat) (x : lists_link) : cutL nl nt (c_lists_link x) = c_lists_link x := by simp only [cutL, e_lists_link, c_lists_link, cutAV, (enc_i64 td3 sz3).cut nl nt, (enc_i64 td3 sz3).cut nl nt, (enc_i64 td3 sz3).cut nl nt, (enc_i64 td3 sz3).cut nl nt]
theorem pc_lists_link (x : lists_link) : purL (c_lists_link x) = true := by simp only [c_lists_link, purL, purL_append, Bool.and_self, Bool.and_true, (show purA (eI x.ahead) = true from (fun _ => rfl) _), (show purA (eI x.behind) = true from (fun _ => rfl) _), (show purA (eI x.list) = true from (fun _ => rfl) _), (show purA (eI x.used) = true from (fun _ => rfl) _)]
theorem pur_lists_link (x : lists_link) : purA (e_lists_link x) = true := pc_lists_link x
theorem enc115 : Enc ty 115 4 e_lists_link := ⟨sz115, by decide, fun _ => rfl, fun _ _ => rfl, fun h => (by cases h), fun _ => rfl, fun nl nt x => by simp only [e_lists_link, cutAV, c_lists_link_cut]⟩
theorem enc116 : Enc ty 116 4 e_lists_link := ⟨sz116, by decide, fun _ => rfl, fun _ _ => rfl, fun h => (by cases h), fun _ => rfl, fun nl nt x => by simp only [e_lists_link, cutAV, c_lists_link_cut]⟩
structure lists_Lists where
  nodes : List lists_link
  first_ : List Int
  last_ : List Int
  count : List Int
  free : Int
  clock : Int
  deriving DecidableEq
def c_lists_Lists (x : lists_Lists) : List AV := [(eL 4 e_lists_link) x.nodes, (eL 1 eI) x.first_, (eL 1 eI) x.last_, (eL 1 eI) x.count, eI x.free, eI x.clock]
def e_lists_Lists (x : lists_Lists) : AV := .agg (c_lists_Lists x)
def z_lists_Lists : lists_Lists := ⟨([] : List lists_link), ([] : List Int), ([] : List Int), ([] : List Int), (0 : Int), (0 : Int)⟩
theorem c_lists_Lists_cut (nl nt : Nat → Option Nat) (x : lists_Lists) : cutL nl nt (c_lists_Lists x) = c_lists_Lists x := by simp only [cutL, e_lists_Lists, c_lists_Lists, cutAV, (enc_l td112 sz112 enc116.cut).cut nl nt, (enc_l td62 sz62 (enc_i64 td3 sz3).cut).cut nl nt, (enc_l td62 sz62 (enc_i64 td3 sz3).cut).cut nl nt, (enc_l td62 sz62 (enc_i64 td3 sz3).cut).cut nl nt, (enc_i64 td3 sz3).cut nl nt, (enc_i64 td3 sz3).cut nl nt]
theorem pc_lists_Lists (x : lists_Lists) : purL (c_lists_Lists x) = true := by simp only [c_lists_Lists, purL, purL_append, Bool.and_self, Bool.and_true, (show purA ((eL 4 e_lists_link) x.nodes) = true from (pur_eL pur_lists_link) _), (show purA ((eL 1 eI) x.first_) = true from (pur_eL (fun _ => rfl)) _), (show purA ((eL 1 eI) x.last_) = true from (pur_eL (fun _ => rfl)) _), (show purA ((eL 1 eI) x.count) = true from (pur_eL (fun _ => rfl)) _), (show purA (eI x.free) = true from (fun _ => rfl) _), (show purA (eI x.clock) = true from (fun _ => rfl) _)]
theorem pur_lists_Lists (x : lists_Lists) : purA (e_lists_Lists x) = true := pc_lists_Lists x
theorem enc113 : Enc ty 113 6 e_lists_Lists := ⟨sz113, by decide, fun _ => rfl, fun _ _ => rfl, fun h => (by cases h), fun _ => rfl, fun nl nt x => by simp only [e_lists_Lists, cutAV, c_lists_Lists_cut]⟩
theorem enc114 : Enc ty 114 6 e_lists_Lists := ⟨sz114, by decide, fun _ => rfl, fun _ _ => rfl, fun h => (by cases h), fun _ => rfl, fun nl nt x => by simp only [e_lists_Lists, cutAV, c_lists_Lists_cut]⟩
structure reflectlite_ValueError where
  Method : List (BitVec 8)
  Kind : BitVec 8
  deriving DecidableEq
def c_reflectlite_ValueError (x : reflectlite_ValueError) : List AV := [eS x.Method, (@eU .u8 8) x.Kind]
def e_reflectlite_ValueError (x : reflectlite_ValueError) : AV := .agg (c_reflectlite_ValueError x)
def z_reflectlite_ValueError : reflectlite_ValueError := ⟨([] : List (BitVec 8)), 0#8⟩
theorem c_reflectlite_ValueError_cut (nl nt : Nat → Option Nat) (x : reflectlite_ValueError) : cutL nl nt (c_reflectlite_ValueError x) = c_reflectlite_ValueError x := by simp only [cutL, e_reflectlite_ValueError, c_reflectlite_ValueError, cutAV, (enc_s td9 sz9).cut nl nt, (enc_u td134 sz134).cut nl nt]
theorem pc_reflectlite_ValueError (x : reflectlite_ValueError) : purL (c_reflectlite_ValueError x) = true := by simp only [c_reflectlite_ValueError, purL, purL_append, Bool.and_self, Bool.and_true, (show purA (eS x.Method) = true from (fun _ => rfl) _), (show purA ((@eU .u8 8) x.Kind) = true from (fun _ => rfl) _)]
theorem pur_reflectlite_ValueError (x : reflectlite_ValueError) : purA (e_reflectlite_ValueError x) = true := pc_reflectlite_ValueError x
theorem enc183 : Enc ty 183 2 e_reflectlite_ValueError := ⟨sz183, by decide, fun _ => rfl, fun _ _ => rfl, fun h => (by cases h), fun _ => rfl, fun nl nt x => by simp only [e_reflectlite_ValueError, cutAV, c_reflectlite_ValueError_cut]⟩
theorem enc184 : Enc ty 184 2 e_reflectlite_ValueError := ⟨sz184, by decide, fun _ => rfl, fun _ _ => rfl, fun h => (by cases h), fun _ => rfl, fun nl nt x => by simp only [e_reflectlite_ValueError, cutAV, c_reflectlite_ValueError_cut]⟩
structure abi_Method where
  Name : Int
  Mtyp : Int
  Ifn : Int
  Tfn : Int
  deriving DecidableEq
def c_abi_Method (x : abi_Method) : List AV := [(eK .i32) x.Name, (eK .i32) x.Mtyp, (eK .i32) x.Ifn, (eK .i32) x.Tfn]
def e_abi_Method (x : abi_Method) : AV := .agg (c_abi_Method x)
def z_abi_Method : abi_Method := ⟨(0 : Int), (0 : Int), (0 : Int), (0 : Int)⟩
theorem c_abi_Method_cut (nl nt : Nat → Option Nat) (x : abi_Method) : cutL nl nt (c_abi_Method x) = c_abi_Method x := by simp only [cutL, e_abi_Method, c_abi_Method, cutAV, (enc_i td176 sz176).cut nl nt, (enc_i td177 sz177).cut nl nt, (enc_i td191 sz191).cut nl nt, (enc_i td191 sz191).cut nl nt]
theorem pc_abi_Method (x : abi_Method) : purL (c_abi_Method x) = true := by simp only [c_abi_Method, purL, purL_append, Bool.and_self, Bool.and_true, (show purA ((eK .i32) x.Name) = true from (fun _ => rfl) _), (show purA ((eK .i32) x.Mtyp) = true from (fun _ => rfl) _), (show purA ((eK .i32) x.Ifn) = true from (fun _ => rfl) _), (show purA ((eK .i32) x.Tfn) = true from (fun _ => rfl) _)]
theorem pur_abi_Method (x : abi_Method) : purA (e_abi_Method x) = true := pc_abi_Method x
theorem enc192 : Enc ty 192 4 e_abi_Method := ⟨sz192, by decide, fun _ => rfl, fun _ _ => rfl, fun h => (by cases h), fun _ => rfl, fun nl nt x => by simp only [e_abi_Method, cutAV, c_abi_Method_cut]⟩
theorem enc193 : Enc ty 193 4 e_abi_Method := ⟨sz193, by decide, fun _ => rfl, fun _ _ => rfl, fun h => (by cases h), fun _ => rfl, fun nl nt x => by simp only [e_abi_Method, cutAV, c_abi_Method_cut]⟩
end Go.Proofs.YtobbifgmjkgkfaaDoor
namespace Go.Va
open Go
set_option linter.unusedVariables false
set_option linter.unusedSimpArgs false

theorem loopO_up {S X : Type} {body : S → Option (S ⊕ X)} (g : Nat → S) (n : Nat) {x : X} (h : ∀ i, i < n → body (g i) = some (.inl (g (i + 1)))) (hx : body (g n) = some (.inr x)) : loopO body (g 0) = some x := by
  have key : ∀ k, k ≤ n → loopO body (g (n - k)) = some x := by
    intro k
    induction k with
    | zero => intro _; exact loopO_out hx
    | succ k ih =>
      intro hk
      rw [loopO_in (h (n - (k + 1)) (by omega)), show n - (k + 1) + 1 = n - k by omega]
      exact ih (by omega)
  have := key n (Nat.le_refl _)
  rwa [Nat.sub_self] at this
/-- What a round comes to that may leave. -/
def nx {S X : Type} (o : Option X) (s : S) : S ⊕ X := match o with | none => .inl s | some y => .inr y
/-- A loop that leaves early, at the first round that says so. -/
theorem loopO_inv {S X : Type} {body : S → Option (S ⊕ X)} (I : S → Prop) (m : S → Nat) (Q : X → Prop) (h : ∀ s, I s → (∃ s', body s = some (.inl s') ∧ I s' ∧ m s' < m s) ∨ ∃ x, body s = some (.inr x) ∧ Q x) {s : S} (h0 : I s) : ∃ x, loopO body s = some x ∧ Q x := by
  generalize hk : m s = k
  induction k using Nat.strongRecOn generalizing s with
  | _ k ih =>
    rcases h s h0 with ⟨s', h1, h2, h3⟩ | ⟨x, h1, h2⟩
    · obtain ⟨x, k1, k2⟩ := ih (m s') (hk ▸ h3) h2 rfl
      exact ⟨x, by rw [loopO_in h1]; exact k1, k2⟩
    · exact ⟨x, loopO_out h1, h2⟩
/-- A number of rounds. -/
theorem ix_nat {α : Type} {l : List α} {i : Nat} (h : i < l.length) : ix l (i : Int) = some l[i] := by
  unfold ix
  rw [if_pos (by omega)]
  simp [h]
theorem ix_get {α : Type} (l : List α) (i : Nat) : ix l (i : Int) = l[i]? := by
  unfold ix
  rw [if_pos (by omega)]
  simp
theorem w64_nat {i : Nat} (h : i < 9223372036854775807) : w64 ((i : Int) + 1) = ((i + 1 : Nat) : Int) := by
  rw [w64_eq (by omega) (by omega)]; omega
theorem app_eq {α : Type} {b : Nat} {l m : List α} (h : (l.length + m.length) * b ≤ 140737488355328) : app b l m = some (l ++ m) := by simp [app, h]
theorem cutFrom_eq {α : Type} {l : List α} {n : Nat} (h : n ≤ l.length) : cutFrom l (n : Int) = some (l.drop n) := by
  unfold cutFrom
  rw [if_pos ⟨by omega, by omega⟩]; simp
theorem dv_eq {y : Int} (h : y ≠ 0) : dv y = some y := by unfold dv; rw [if_neg h]
end Go.Va
namespace Go.Proofs.YtobbifgmjkgkfaaDoor
open Go Go.Va
set_option linter.unusedVariables false
set_option linter.unusedSimpArgs false
set_option maxRecDepth 20000
/-- The code of a fault: of the first one under it that has one. -/
def codeOf : Err → Int
  | .nil => 0
  | .fault o a c u => if c = 0 then codeOf u else c
def trouble_Of_b0 : Err → Option (Err ⊕ (Unit ⊕ Int))
  | .nil => some (.inr (.inl ()))
  | .fault o a c u => if (c != 0) = true then some (.inr (.inr c)) else some (.inl u)
def trouble_Of (x : Err) : Option Int := some (codeOf x)
theorem trouble_Of_l0 : ∀ x : Err, loopO trouble_Of_b0 x = some (if codeOf x = 0 then .inl () else .inr (codeOf x))
  | .nil => loopO_out rfl
  | .fault o a c u => by
    by_cases hc : c = 0
    · rw [loopO_in (s' := u) (by simp [trouble_Of_b0, hc]), trouble_Of_l0 u]; simp [codeOf, hc]
    · rw [loopO_out (x := .inr c) (by simp [trouble_Of_b0, hc])]; simp [codeOf, hc]
end Go.Proofs.YtobbifgmjkgkfaaDoor
namespace Go.Proofs.YtobbifgmjkgkfaaDoor
open Go Go.Va
set_option linter.unusedVariables false
set_option linter.unusedSimpArgs false
set_option maxRecDepth 20000
noncomputable def trouble_New (x0 : List (BitVec 8)) (x1 : Int) (x2 : Int) : Option (Err) :=
  lt (x2 == (0 : Int)) fun v2 =>
  if v2 = true then
    some Err.nil
  else
    lt ((⟨x0, x1, x2, Err.nil⟩ : trouble_fault)) fun v5 =>
    some (Err.fault v5.op v5.at_ v5.code v5.under)
end Go.Proofs.YtobbifgmjkgkfaaDoor
namespace Go.Proofs.YtobbifgmjkgkfaaDoor
open Go Go.Va
set_option linter.unusedVariables false
set_option linter.unusedSimpArgs false
set_option maxRecDepth 20000
noncomputable def lists_New_b0 (x1 : Int) (v28 : List lists_link) (v33 : List Int) (v38 : List Int) (v43 : List Int) (v50 : Int) (c51 : Int) (c52 : List Int) (c53 : List Int) : Option ((Int × (List Int) × (List Int)) ⊕ ((List Int) × (List Int))) :=
  lt (decide (c51 < v50)) fun v64 =>
  if v64 = true then
    (chk (c53).length c51).bind fun v67 =>
    (updA (c53).length c53 c51 (fun _ => (-1 : Int))).bind fun c69 =>
    (chk (c52).length c51).bind fun v72 =>
    (updA (c52).length c52 c51 (fun _ => (-1 : Int))).bind fun c74 =>
    lt (w64 (c51 + (1 : Int))) fun v77 =>
    some (.inl (v77, c74, c69))
  else
    some (.inr (c52, c53))
noncomputable def lists_New_l0 (x1 : Int) (v28 : List lists_link) (v33 : List Int) (v38 : List Int) (v43 : List Int) (v50 : Int) (s : Int × (List Int) × (List Int)) : Option ((List Int) × (List Int)) := loopO (fun s => lists_New_b0 x1 v28 v33 v38 v43 v50 s.1 s.2.1 s.2.2) s
noncomputable def lists_New_b1 (x1 : Int) (v28 : List lists_link) (v33 : List Int) (v38 : List Int) (v43 : List Int) (s61 : (List Int) × (List Int)) (v80 : Int) (c81 : Int) (c82 : List lists_link) : Option ((Int × (List lists_link)) ⊕ ((List lists_link))) :=
  lt (decide (c81 < v80)) fun v93 =>
  if v93 = true then
    lt (w64 (c81 + (1 : Int))) fun v96 =>
    lt ((⟨(-1 : Int), v96, (-1 : Int), (0 : Int)⟩ : lists_link)) fun v98 =>
    (chk (c82).length c81).bind fun v100 =>
    (updA (c82).length c82 c81 (fun _ => v98)).bind fun c102 =>
    lt (w64 (c81 + (1 : Int))) fun v105 =>
    some (.inl (v105, c102))
  else
    some (.inr c82)
noncomputable def lists_New_l1 (x1 : Int) (v28 : List lists_link) (v33 : List Int) (v38 : List Int) (v43 : List Int) (s61 : (List Int) × (List Int)) (v80 : Int) (s : Int × (List lists_link)) : Option ((List lists_link)) := loopO (fun s => lists_New_b1 x1 v28 v33 v38 v43 s61 v80 s.1 s.2) s
noncomputable def lists_New (x0 : Int) (x1 : Int) : Option ((Option lists_Lists) × Err) :=
  (
    lt (decide (x0 < (1 : Int))) fun v6 =>
    if v6 = true then
      some true
    else
      lt (decide (x0 > (64 : Int))) fun v9 =>
      some v9
   : Option (Bool)).bind fun s1 =>
    if s1 = true then
      (trouble_New ([108#8, 105#8, 115#8, 116#8, 115#8] : List (BitVec 8)) x0 (2 : Int)).bind fun v13 =>
      some (none, v13)
    else
      (
        lt (decide (x1 < (1 : Int))) fun v19 =>
        if v19 = true then
          some true
        else
          lt (decide (x1 > (65536 : Int))) fun v22 =>
          some v22
       : Option (Bool)).bind fun s14 =>
        if s14 = true then
          (trouble_New ([110#8, 111#8, 100#8, 101#8, 115#8] : List (BitVec 8)) x1 (2 : Int)).bind fun v26 =>
          some (none, v26)
        else
          (mkS 32 x1 z_lists_link).bind fun v28 =>
          (mkS 8 x0 (0 : Int)).bind fun v33 =>
          (mkS 8 x0 (0 : Int)).bind fun v38 =>
          (mkS 8 x0 (0 : Int)).bind fun v43 =>
          lt ((((v33).length : Nat) : Int)) fun v50 =>
          (lists_New_l0 x1 v28 v33 v38 v43 v50 ((0 : Int), v38, v33)).bind fun s61 =>
            lt ((((v28).length : Nat) : Int)) fun v80 =>
            (lists_New_l1 x1 v28 v33 v38 v43 s61 v80 ((0 : Int), v28)).bind fun s90 =>
              lt (w64 (x1 - (1 : Int))) fun v108 =>
              (chk (s90).length v108).bind fun v110 =>
              (updA (s90).length s90 v108 (fun y => ({ y with behind := (-1 : Int) } : lists_link))).bind fun c112 =>
              some (some ({ (⟨v28, v33, v38, v43, (0 : Int), (0 : Int)⟩ : lists_Lists) with nodes := c112, first_ := s61.2, last_ := s61.1, count := v43 } : lists_Lists), Err.nil)
end Go.Proofs.YtobbifgmjkgkfaaDoor
namespace Go.Proofs.YtobbifgmjkgkfaaDoor
open Go Go.Va
set_option linter.unusedVariables false
set_option linter.unusedSimpArgs false
set_option maxRecDepth 20000
noncomputable def lists_Lists_push (x0 : lists_Lists) (x1 : Int) (x2 : Int) : Option (lists_Lists) :=
  lt (w64 (x0.clock + (1 : Int))) fun v2 =>
  (chk (x0.first_).length x2).bind fun v5 =>
  (ixA (x0.first_).length x0.first_ x2).bind fun v7 =>
  lt ((⟨(-1 : Int), v7, x2, ({ x0 with clock := v2 } : lists_Lists).clock⟩ : lists_link)) fun v9 =>
  (chk (x0.nodes).length x1).bind fun v11 =>
  (updA (x0.nodes).length x0.nodes x1 (fun _ => v9)).bind fun c13 =>
  (chk (x0.first_).length x2).bind fun v16 =>
  (ixA (x0.first_).length x0.first_ x2).bind fun v18 =>
  lt (v18 == (-1 : Int)) fun v20 =>
  (
    if v20 = true then
      (chk (x0.last_).length x2).bind fun v27 =>
      (updA (x0.last_).length x0.last_ x2 (fun _ => x1)).bind fun c29 =>
      some (c13, c29)
    else
      (chk (x0.first_).length x2).bind fun v32 =>
      (ixA (x0.first_).length x0.first_ x2).bind fun v34 =>
      (chk (c13).length v34).bind fun v36 =>
      (updA (c13).length c13 v34 (fun y => ({ y with ahead := x1 } : lists_link))).bind fun c38 =>
      some (c38, x0.last_)
   : Option ((List lists_link) × (List Int))).bind fun s21 =>
    (chk (x0.first_).length x2).bind fun v42 =>
    (updA (x0.first_).length x0.first_ x2 (fun _ => x1)).bind fun c44 =>
    (chk (x0.count).length x2).bind fun v47 =>
    (ixA (x0.count).length x0.count x2).bind fun v49 =>
    lt (w64 (v49 + (1 : Int))) fun v51 =>
    (chk (x0.count).length x2).bind fun v53 =>
    (updA (x0.count).length x0.count x2 (fun _ => v51)).bind fun c55 =>
    some ({ ({ x0 with clock := v2 } : lists_Lists) with nodes := s21.1, first_ := c44, last_ := s21.2, count := c55 } : lists_Lists)
end Go.Proofs.YtobbifgmjkgkfaaDoor
namespace Go.Proofs.YtobbifgmjkgkfaaDoor
open Go Go.Va
set_option linter.unusedVariables false
set_option linter.unusedSimpArgs false
set_option maxRecDepth 20000
noncomputable def lists_Lists_Add (x0 : lists_Lists) (x1 : Int) : Option (Int × Err × lists_Lists) :=
  (
    lt (decide (x1 < (0 : Int))) fun v6 =>
    if v6 = true then
      some true
    else
      lt ((((x0.first_).length : Nat) : Int)) fun v9 =>
      lt (decide (x1 ≥ v9)) fun v11 =>
      some v11
   : Option (Bool)).bind fun s1 =>
    if s1 = true then
      (trouble_New ([97#8, 100#8, 100#8] : List (BitVec 8)) x1 (2 : Int)).bind fun v15 =>
      some ((-1 : Int), v15, x0)
    else
      lt (x0.free == (-1 : Int)) fun v17 =>
      if v17 = true then
        (trouble_New ([97#8, 100#8, 100#8] : List (BitVec 8)) x1 (4 : Int)).bind fun v20 =>
        some ((-1 : Int), v20, x0)
      else
        (chk (x0.nodes).length x0.free).bind fun v22 =>
        (ixA (x0.nodes).length x0.nodes x0.free).bind fun v24 =>
        (lists_Lists_push ({ ({ x0 with free := v24.behind } : lists_Lists) with nodes := x0.nodes, first_ := x0.first_, last_ := x0.last_, count := x0.count } : lists_Lists) x0.free x1).bind fun v27 =>
        some (x0.free, Err.nil, v27)
end Go.Proofs.YtobbifgmjkgkfaaDoor
namespace Go.Proofs.YtobbifgmjkgkfaaDoor
open Go Go.Va
set_option linter.unusedVariables false
set_option linter.unusedSimpArgs false
set_option maxRecDepth 20000
noncomputable def lists_Lists_at (x0 : lists_Lists) (x1 : List (BitVec 8)) (x2 : Int) : Option (Err) :=
  (
    lt (decide (x2 < (0 : Int))) fun v6 =>
    if v6 = true then
      some true
    else
      lt ((((x0.nodes).length : Nat) : Int)) fun v9 =>
      lt (decide (x2 ≥ v9)) fun v11 =>
      some v11
   : Option (Bool)).bind fun s1 =>
    if s1 = true then
      (trouble_New x1 x2 (2 : Int)).bind fun v15 =>
      some v15
    else
      (chk (x0.nodes).length x2).bind fun v17 =>
      (ixA (x0.nodes).length x0.nodes x2).bind fun v19 =>
      lt (v19.list == (-1 : Int)) fun v21 =>
      if v21 = true then
        (trouble_New x1 x2 (9 : Int)).bind fun v24 =>
        some v24
      else
        some Err.nil
end Go.Proofs.YtobbifgmjkgkfaaDoor
namespace Go.Proofs.YtobbifgmjkgkfaaDoor
open Go Go.Va
set_option linter.unusedVariables false
set_option linter.unusedSimpArgs false
set_option maxRecDepth 20000
noncomputable def lists_Lists_pull (x0 : lists_Lists) (x1 : Int) : Option (lists_Lists) :=
  (chk (x0.nodes).length x1).bind fun v2 =>
  (ixA (x0.nodes).length x0.nodes x1).bind fun v4 =>
  lt ((v4 : lists_link)) fun c8 =>
  lt (c8.ahead == (-1 : Int)) fun v11 =>
  (
    if v11 = true then
      (chk (x0.first_).length c8.list).bind fun v18 =>
      (updA (x0.first_).length x0.first_ c8.list (fun _ => c8.behind)).bind fun c20 =>
      some (x0.nodes, c20)
    else
      (chk (x0.nodes).length c8.ahead).bind fun v23 =>
      (updA (x0.nodes).length x0.nodes c8.ahead (fun y => ({ y with behind := c8.behind } : lists_link))).bind fun c25 =>
      some (c25, x0.first_)
   : Option ((List lists_link) × (List Int))).bind fun s12 =>
    lt (c8.behind == (-1 : Int)) fun v29 =>
    (
      if v29 = true then
        (chk (x0.last_).length c8.list).bind fun v36 =>
        (updA (x0.last_).length x0.last_ c8.list (fun _ => c8.ahead)).bind fun c38 =>
        some (s12.1, c38)
      else
        (chk (s12.1).length c8.behind).bind fun v41 =>
        (updA (s12.1).length s12.1 c8.behind (fun y => ({ y with ahead := c8.ahead } : lists_link))).bind fun c43 =>
        some (c43, x0.last_)
     : Option ((List lists_link) × (List Int))).bind fun s30 =>
      (chk (x0.count).length c8.list).bind fun v47 =>
      (ixA (x0.count).length x0.count c8.list).bind fun v49 =>
      lt (w64 (v49 - (1 : Int))) fun v51 =>
      (chk (x0.count).length c8.list).bind fun v53 =>
      (updA (x0.count).length x0.count c8.list (fun _ => v51)).bind fun c55 =>
      some ({ x0 with nodes := s30.1, first_ := s12.2, last_ := s30.2, count := c55 } : lists_Lists)
end Go.Proofs.YtobbifgmjkgkfaaDoor
namespace Go.Proofs.YtobbifgmjkgkfaaDoor
open Go Go.Va
set_option linter.unusedVariables false
set_option linter.unusedSimpArgs false
set_option maxRecDepth 20000
noncomputable def lists_Lists_Drop (x0 : lists_Lists) (x1 : Int) : Option (Err × lists_Lists) :=
  (lists_Lists_at x0 ([100#8, 114#8, 111#8, 112#8] : List (BitVec 8)) x1).bind fun v2 =>
  lt (!Err.isNil v2) fun v4 =>
  if v4 = true then
    some (v2, x0)
  else
    (lists_Lists_pull x0 x1).bind fun v7 =>
    lt ((⟨(-1 : Int), v7.free, (-1 : Int), (0 : Int)⟩ : lists_link)) fun v9 =>
    (chk (v7.nodes).length x1).bind fun v11 =>
    (updA (v7.nodes).length v7.nodes x1 (fun _ => v9)).bind fun c13 =>
    some (Err.nil, ({ ({ v7 with free := x1 } : lists_Lists) with nodes := c13, first_ := v7.first_, last_ := v7.last_, count := v7.count } : lists_Lists))
end Go.Proofs.YtobbifgmjkgkfaaDoor
namespace Go.Proofs.YtobbifgmjkgkfaaDoor
open Go Go.Va
set_option linter.unusedVariables false
set_option linter.unusedSimpArgs false
set_option maxRecDepth 20000
noncomputable def lists_Lists_Touch (x0 : lists_Lists) (x1 : Int) : Option (Err × lists_Lists) :=
  (lists_Lists_at x0 ([116#8, 111#8, 117#8, 99#8, 104#8] : List (BitVec 8)) x1).bind fun v2 =>
  lt (!Err.isNil v2) fun v4 =>
  if v4 = true then
    some (v2, x0)
  else
    (chk (x0.nodes).length x1).bind fun v7 =>
    (ixA (x0.nodes).length x0.nodes x1).bind fun v9 =>
    (lists_Lists_pull x0 x1).bind fun v11 =>
    (lists_Lists_push v11 x1 v9.list).bind fun v13 =>
    some (Err.nil, v13)
end Go.Proofs.YtobbifgmjkgkfaaDoor
namespace Go.Proofs.YtobbifgmjkgkfaaDoor
open Go Go.Va
set_option linter.unusedVariables false
set_option linter.unusedSimpArgs false
set_option maxRecDepth 20000
noncomputable def lists_Lists_Sound_b1 (x0 : lists_Lists) (v9 : Int) (c11 : Int) (c28 : List Int) (c29 : Int) (c30 : Int) (c31 : Int) : Option (((List Int) × Int × Int × Int) ⊕ (((List Int) × Int × Int) ⊕ (((List Int) × Int) ⊕ (((List Int)) ⊕ (Bool))))) :=
  lt (c31 != (-1 : Int)) fun v42 =>
  if v42 = true then
    (chk (x0.nodes).length c31).bind fun v45 =>
    (ixA (x0.nodes).length x0.nodes c31).bind fun v47 =>
    lt ((v47 : lists_link)) fun c51 =>
    (
      (chk (c28).length c31).bind fun v58 =>
      (ixA (c28).length c28 c31).bind fun v60 =>
      lt (decide (v60 > (0 : Int))) fun v62 =>
      if v62 = true then
        some true
      else
        lt (c51.ahead != c29) fun v65 =>
        if v65 = true then
          some true
        else
          lt (c51.list != c11) fun v68 =>
          some v68
     : Option (Bool)).bind fun s53 =>
      if s53 = true then
        some (.inr (.inr (.inr (.inr false))))
      else
        (chk (c28).length c31).bind fun v74 =>
        (ixA (c28).length c28 c31).bind fun v76 =>
        lt (w64 (v76 + (1 : Int))) fun v78 =>
        (chk (c28).length c31).bind fun v80 =>
        (updA (c28).length c28 c31 (fun _ => v78)).bind fun c82 =>
        lt (w64 (c30 + (1 : Int))) fun v85 =>
        (chk (x0.nodes).length c31).bind fun v87 =>
        (ixA (x0.nodes).length x0.nodes c31).bind fun v89 =>
        some (.inl (c82, c31, v85, v89.behind))
  else
    some (.inr (.inl (c28, c29, c30)))
noncomputable def lists_Lists_Sound_l1 (x0 : lists_Lists) (v9 : Int) (c11 : Int) (s : (List Int) × Int × Int × Int) : Option (((List Int) × Int × Int) ⊕ (((List Int) × Int) ⊕ (((List Int)) ⊕ (Bool)))) := loopO (fun s => lists_Lists_Sound_b1 x0 v9 c11 s.1 s.2.1 s.2.2.1 s.2.2.2) s
noncomputable def lists_Lists_Sound_b0 (x0 : lists_Lists) (v9 : Int) (c10 : List Int) (c11 : Int) : Option (((List Int) × Int) ⊕ (((List Int)) ⊕ (Bool))) :=
  lt (decide (c11 < v9)) fun v22 =>
  if v22 = true then
    (chk (x0.first_).length c11).bind fun v25 =>
    (ixA (x0.first_).length x0.first_ c11).bind fun v27 =>
    (lists_Lists_Sound_l1 x0 v9 c11 (c10, (-1 : Int), (0 : Int), v27)).bind fun o32 =>
      Sum.elim (fun s39 : (List Int) × Int × Int =>
        (
          (chk (x0.last_).length c11).bind fun v96 =>
          (ixA (x0.last_).length x0.last_ c11).bind fun v98 =>
          lt (v98 == s39.2.1) fun v100 =>
          if v100 = true then
            (chk (x0.count).length c11).bind fun v103 =>
            (ixA (x0.count).length x0.count c11).bind fun v105 =>
            lt (v105 == s39.2.2) fun v107 =>
            some v107
          else
            some false
         : Option (Bool)).bind fun s91 =>
          if s91 = true then
            lt (w64 (c11 + (1 : Int))) fun v111 =>
            some (.inl (s39.1, v111))
          else
            some (.inr (.inr false))
        ) (fun y => some y) o32
  else
    some (.inr (.inl c10))
noncomputable def lists_Lists_Sound_l0 (x0 : lists_Lists) (v9 : Int) (s : (List Int) × Int) : Option (((List Int)) ⊕ (Bool)) := loopO (fun s => lists_Lists_Sound_b0 x0 v9 s.1 s.2) s
noncomputable def lists_Lists_Sound_b2 (x0 : lists_Lists) (c114 : List Int) (c115 : Int) : Option (((List Int) × Int) ⊕ (((List Int)) ⊕ (Bool))) :=
  lt (c115 != (-1 : Int)) fun v126 =>
  if v126 = true then
    (
      (chk (c114).length c115).bind fun v133 =>
      (ixA (c114).length c114 c115).bind fun v135 =>
      lt (decide (v135 > (0 : Int))) fun v137 =>
      if v137 = true then
        some true
      else
        (chk (x0.nodes).length c115).bind fun v140 =>
        (ixA (x0.nodes).length x0.nodes c115).bind fun v142 =>
        lt (v142.list != (-1 : Int)) fun v144 =>
        some v144
     : Option (Bool)).bind fun s128 =>
      if s128 = true then
        some (.inr (.inr false))
      else
        (chk (c114).length c115).bind fun v149 =>
        (ixA (c114).length c114 c115).bind fun v151 =>
        lt (w64 (v151 + (1 : Int))) fun v153 =>
        (chk (c114).length c115).bind fun v155 =>
        (updA (c114).length c114 c115 (fun _ => v153)).bind fun c157 =>
        (chk (x0.nodes).length c115).bind fun v160 =>
        (ixA (x0.nodes).length x0.nodes c115).bind fun v162 =>
        some (.inl (c157, v162.behind))
  else
    some (.inr (.inl c114))
noncomputable def lists_Lists_Sound_l2 (x0 : lists_Lists) (s : (List Int) × Int) : Option (((List Int)) ⊕ (Bool)) := loopO (fun s => lists_Lists_Sound_b2 x0 s.1 s.2) s
noncomputable def lists_Lists_Sound_b3 (x0 : lists_Lists) (s123 : (List Int)) (v166 : Int) (c167 : Int) : Option ((Int) ⊕ (Unit ⊕ (Bool))) :=
  lt (decide (c167 < v166)) fun v178 =>
  if v178 = true then
    (ix s123 c167).bind fun v181 =>
    lt (v181 != (1 : Int)) fun v183 =>
    if v183 = true then
      some (.inr (.inr false))
    else
      lt (w64 (c167 + (1 : Int))) fun v187 =>
      some (.inl v187)
  else
    some (.inr (.inl ()))
noncomputable def lists_Lists_Sound_l3 (x0 : lists_Lists) (s123 : (List Int)) (v166 : Int) (s : Int) : Option (Unit ⊕ (Bool)) := loopO (fun s => lists_Lists_Sound_b3 x0 s123 v166 s) s
noncomputable def lists_Lists_Sound (x0 : lists_Lists) : Option (Bool) :=
  lt ((((x0.nodes).length : Nat) : Int)) fun v2 =>
  (mkS 8 v2 (0 : Int)).bind fun v4 =>
  lt ((((x0.first_).length : Nat) : Int)) fun v9 =>
  (lists_Lists_Sound_l0 x0 v9 (v4, (0 : Int))).bind fun o12 =>
    Sum.elim (fun s19 : (List Int) =>
      (lists_Lists_Sound_l2 x0 (s19, x0.free)).bind fun o116 =>
        Sum.elim (fun s123 : (List Int) =>
          lt (((s123).length : Int)) fun v166 =>
          (lists_Lists_Sound_l3 x0 s123 v166 (0 : Int)).bind fun o168 =>
            Sum.elim (fun s175 : Unit =>
              some true
              ) (fun y => some y) o168
          ) (fun y => some y) o116
      ) (fun y => some y) o12
end Go.Proofs.YtobbifgmjkgkfaaDoor
namespace Go.Proofs.YtobbifgmjkgkfaaDoor
open Go Go.Va
set_option linter.unusedVariables false
set_option linter.unusedSimpArgs false
set_option maxRecDepth 20000
noncomputable def lists_Lists_Oldest_b0 (x0 : lists_Lists) (v2 : Int) (c3 : Int) (c4 : Int) : Option ((Int × Int) ⊕ (Int)) :=
  lt (decide (c4 < v2)) fun v15 =>
  if v15 = true then
    (chk (x0.last_).length c4).bind fun v18 =>
    (ixA (x0.last_).length x0.last_ c4).bind fun v20 =>
    (
      lt (v20 != (-1 : Int)) fun v26 =>
      if v26 = true then
        lt (c3 == (-1 : Int)) fun v29 =>
        if v29 = true then
          some true
        else
          (chk (x0.nodes).length v20).bind fun v32 =>
          (ixA (x0.nodes).length x0.nodes v20).bind fun v34 =>
          (chk (x0.nodes).length c3).bind fun v36 =>
          (ixA (x0.nodes).length x0.nodes c3).bind fun v38 =>
          lt (decide (v34.used < v38.used)) fun v40 =>
          some v40
      else
        some false
     : Option (Bool)).bind fun s21 =>
      if s21 = true then
        lt (w64 (c4 + (1 : Int))) fun v44 =>
        some (.inl (v20, v44))
      else
        lt (w64 (c4 + (1 : Int))) fun v46 =>
        some (.inl (c3, v46))
  else
    some (.inr c3)
noncomputable def lists_Lists_Oldest_l0 (x0 : lists_Lists) (v2 : Int) (s : Int × Int) : Option (Int) := loopO (fun s => lists_Lists_Oldest_b0 x0 v2 s.1 s.2) s
noncomputable def lists_Lists_Oldest (x0 : lists_Lists) : Option (Int) :=
  lt ((((x0.last_).length : Nat) : Int)) fun v2 =>
  (lists_Lists_Oldest_l0 x0 v2 ((-1 : Int), (0 : Int))).bind fun s12 =>
    some s12
end Go.Proofs.YtobbifgmjkgkfaaDoor
namespace Go.Proofs.YtobbifgmjkgkfaaDoor
open Go Go.Va
set_option linter.unusedVariables false
set_option linter.unusedSimpArgs false
set_option maxRecDepth 20000
noncomputable def lists_Lists_List (x0 : lists_Lists) (x1 : Int) : Option (Int) :=
  (
    lt (decide (x1 < (0 : Int))) fun v6 =>
    if v6 = true then
      some true
    else
      lt ((((x0.nodes).length : Nat) : Int)) fun v9 =>
      lt (decide (x1 ≥ v9)) fun v11 =>
      some v11
   : Option (Bool)).bind fun s1 =>
    if s1 = true then
      some (-1 : Int)
    else
      (chk (x0.nodes).length x1).bind fun v15 =>
      (ixA (x0.nodes).length x0.nodes x1).bind fun v17 =>
      some v17.list
end Go.Proofs.YtobbifgmjkgkfaaDoor
namespace Go.Proofs.YtobbifgmjkgkfaaDoor
open Go Go.Va
set_option linter.unusedVariables false
set_option linter.unusedSimpArgs false
set_option maxRecDepth 20000
noncomputable def lists_Lists_Order_b0 (x0 : lists_Lists) (c18 : List Int) (c19 : Int) : Option (((List Int) × Int) ⊕ ((List Int))) :=
  lt (c19 != (-1 : Int)) fun v31 =>
  if v31 = true then
    lt (([c19] : List Int)) fun v34 =>
    (app 8 c18 v34).bind fun v36 =>
    (chk (x0.nodes).length c19).bind fun v40 =>
    (ixA (x0.nodes).length x0.nodes c19).bind fun v42 =>
    some (.inl (v36, v42.behind))
  else
    some (.inr c18)
noncomputable def lists_Lists_Order_l0 (x0 : lists_Lists) (s : (List Int) × Int) : Option ((List Int)) := loopO (fun s => lists_Lists_Order_b0 x0 s.1 s.2) s
noncomputable def lists_Lists_Order (x0 : lists_Lists) (x1 : Int) : Option ((List Int)) :=
  (
    lt (decide (x1 < (0 : Int))) fun v6 =>
    if v6 = true then
      some true
    else
      lt ((((x0.first_).length : Nat) : Int)) fun v9 =>
      lt (decide (x1 ≥ v9)) fun v11 =>
      some v11
   : Option (Bool)).bind fun s1 =>
    if s1 = true then
      some []
    else
      (chk (x0.first_).length x1).bind fun v15 =>
      (ixA (x0.first_).length x0.first_ x1).bind fun v17 =>
      (lists_Lists_Order_l0 x0 ([], v17)).bind fun s28 =>
        some s28
end Go.Proofs.YtobbifgmjkgkfaaDoor
namespace Go.Proofs.YtobbifgmjkgkfaaDoor
open Go Go.Va
set_option linter.unusedVariables false
set_option linter.unusedSimpArgs false
set_option maxRecDepth 20000
noncomputable def butteryref02_Ints_b0 (x0 : List Int) (x1 : List Int) (c8 : Int) : Option ((Int) ⊕ (Unit ⊕ (Bool))) :=
  lt (((x0).length : Int)) fun v19 =>
  lt (decide (c8 < v19)) fun v21 =>
  if v21 = true then
    (ix x0 c8).bind fun v24 =>
    (ix x1 c8).bind fun v26 =>
    lt (v24 != v26) fun v28 =>
    if v28 = true then
      some (.inr (.inr false))
    else
      lt (w64 (c8 + (1 : Int))) fun v32 =>
      some (.inl v32)
  else
    some (.inr (.inl ()))
noncomputable def butteryref02_Ints_l0 (x0 : List Int) (x1 : List Int) (s : Int) : Option (Unit ⊕ (Bool)) := loopO (fun s => butteryref02_Ints_b0 x0 x1 s) s
noncomputable def butteryref02_Ints (x0 : List Int) (x1 : List Int) : Option (Bool) :=
  lt (((x0).length : Int)) fun v2 =>
  lt (((x1).length : Int)) fun v4 =>
  lt (v2 != v4) fun v6 =>
  if v6 = true then
    some false
  else
    (butteryref02_Ints_l0 x0 x1 (0 : Int)).bind fun o9 =>
      Sum.elim (fun s16 : Unit =>
        some true
        ) (fun y => some y) o9
end Go.Proofs.YtobbifgmjkgkfaaDoor
namespace Go.Proofs.YtobbifgmjkgkfaaDoor
open Go Go.Va
set_option linter.unusedVariables false
set_option linter.unusedSimpArgs false
set_option maxRecDepth 20000
noncomputable def lists_Lists_Last (x0 : lists_Lists) (x1 : Int) : Option (Int) :=
  (
    lt (decide (x1 < (0 : Int))) fun v6 =>
    if v6 = true then
      some true
    else
      lt ((((x0.last_).length : Nat) : Int)) fun v9 =>
      lt (decide (x1 ≥ v9)) fun v11 =>
      some v11
   : Option (Bool)).bind fun s1 =>
    if s1 = true then
      some (-1 : Int)
    else
      (chk (x0.last_).length x1).bind fun v15 =>
      (ixA (x0.last_).length x0.last_ x1).bind fun v17 =>
      some v17
end Go.Proofs.YtobbifgmjkgkfaaDoor
namespace Go.Proofs.YtobbifgmjkgkfaaDoor
open Go Go.Va
set_option linter.unusedVariables false
set_option linter.unusedSimpArgs false
set_option maxRecDepth 20000
noncomputable def lists_Lists_Len (x0 : lists_Lists) (x1 : Int) : Option (Int) :=
  (
    lt (decide (x1 < (0 : Int))) fun v6 =>
    if v6 = true then
      some true
    else
      lt ((((x0.count).length : Nat) : Int)) fun v9 =>
      lt (decide (x1 ≥ v9)) fun v11 =>
      some v11
   : Option (Bool)).bind fun s1 =>
    if s1 = true then
      some (0 : Int)
    else
      (chk (x0.count).length x1).bind fun v15 =>
      (ixA (x0.count).length x0.count x1).bind fun v17 =>
      some v17
end Go.Proofs.YtobbifgmjkgkfaaDoor
namespace Go.Proofs.YtobbifgmjkgkfaaDoor
open Go Go.Va
set_option linter.unusedVariables false
set_option linter.unusedSimpArgs false
set_option maxRecDepth 20000
noncomputable def butterylaw09_works : Option (Bool) :=
  (lists_New (2 : Int) (3 : Int)).bind fun v2 =>
  Option.elim v2.1 (
    (lists_New (0 : Int) (3 : Int)).bind fun v8 =>
    Option.elim v8.1 (
      some false
    ) (fun c9 =>
      some false
    )
  ) (fun c3 =>
    (lists_New (0 : Int) (3 : Int)).bind fun v14 =>
    Option.elim v14.1 (
      lt (!Err.isNil v2.2) fun v20 =>
      if v20 = true then
        some false
      else
        (lists_Lists_Add c3 (1 : Int)).bind fun v23 =>
        (lists_Lists_Add v23.2.2 (1 : Int)).bind fun v25 =>
        (lists_Lists_Touch v25.2.2 v23.1).bind fun v27 =>
        (lists_Lists_Drop v27.2 (9 : Int)).bind fun v29 =>
        (trouble_Of v14.2).bind fun v31 =>
        lt (v31 == (2 : Int)) fun v33 =>
        if v33 = true then
          lt (v23.1 == (0 : Int)) fun v36 =>
          if v36 = true then
            lt (v25.1 == (1 : Int)) fun v39 =>
            if v39 = true then
              lt (Err.isNil v23.2.1) fun v42 =>
              if v42 = true then
                lt (Err.isNil v25.2.1) fun v45 =>
                if v45 = true then
                  lt (Err.isNil v27.1) fun v48 =>
                  if v48 = true then
                    (trouble_Of v29.1).bind fun v51 =>
                    lt (v51 == (2 : Int)) fun v53 =>
                    if v53 = true then
                      (lists_Lists_Order v29.2 (1 : Int)).bind fun v56 =>
                      (butteryref02_Ints v56 ([(0 : Int), (1 : Int)] : List Int)).bind fun v58 =>
                      if v58 = true then
                        (lists_Lists_Last v29.2 (1 : Int)).bind fun v61 =>
                        lt (v61 == (1 : Int)) fun v63 =>
                        if v63 = true then
                          (lists_Lists_Oldest v29.2).bind fun v66 =>
                          lt (v66 == (1 : Int)) fun v68 =>
                          if v68 = true then
                            (lists_Lists_List v29.2 (0 : Int)).bind fun v71 =>
                            lt (v71 == (1 : Int)) fun v73 =>
                            if v73 = true then
                              (lists_Lists_Len v29.2 (1 : Int)).bind fun v76 =>
                              lt (v76 == (2 : Int)) fun v78 =>
                              if v78 = true then
                                (lists_Lists_Sound v29.2).bind fun v81 =>
                                some v81
                              else
                                some false
                            else
                              some false
                          else
                            some false
                        else
                          some false
                      else
                        some false
                    else
                      some false
                  else
                    some false
                else
                  some false
              else
                some false
            else
              some false
          else
            some false
        else
          some false
    ) (fun c15 =>
      lt (!Err.isNil v2.2) fun v83 =>
      if v83 = true then
        some false
      else
        (lists_Lists_Add c3 (1 : Int)).bind fun v86 =>
        (lists_Lists_Add v86.2.2 (1 : Int)).bind fun v88 =>
        (lists_Lists_Touch v88.2.2 v86.1).bind fun v90 =>
        (lists_Lists_Drop v90.2 (9 : Int)).bind fun v92 =>
        (trouble_Of v14.2).bind fun v94 =>
        lt (v94 == (2 : Int)) fun v96 =>
        if v96 = true then
          lt (v86.1 == (0 : Int)) fun v99 =>
          if v99 = true then
            lt (v88.1 == (1 : Int)) fun v102 =>
            if v102 = true then
              lt (Err.isNil v86.2.1) fun v105 =>
              if v105 = true then
                lt (Err.isNil v88.2.1) fun v108 =>
                if v108 = true then
                  lt (Err.isNil v90.1) fun v111 =>
                  if v111 = true then
                    (trouble_Of v92.1).bind fun v114 =>
                    lt (v114 == (2 : Int)) fun v116 =>
                    if v116 = true then
                      (lists_Lists_Order v92.2 (1 : Int)).bind fun v119 =>
                      (butteryref02_Ints v119 ([(0 : Int), (1 : Int)] : List Int)).bind fun v121 =>
                      if v121 = true then
                        (lists_Lists_Last v92.2 (1 : Int)).bind fun v124 =>
                        lt (v124 == (1 : Int)) fun v126 =>
                        if v126 = true then
                          (lists_Lists_Oldest v92.2).bind fun v129 =>
                          lt (v129 == (1 : Int)) fun v131 =>
                          if v131 = true then
                            (lists_Lists_List v92.2 (0 : Int)).bind fun v134 =>
                            lt (v134 == (1 : Int)) fun v136 =>
                            if v136 = true then
                              (lists_Lists_Len v92.2 (1 : Int)).bind fun v139 =>
                              lt (v139 == (2 : Int)) fun v141 =>
                              if v141 = true then
                                (lists_Lists_Sound v92.2).bind fun v144 =>
                                some v144
                              else
                                some false
                            else
                              some false
                          else
                            some false
                        else
                          some false
                      else
                        some false
                    else
                      some false
                  else
                    some false
                else
                  some false
              else
                some false
            else
              some false
          else
            some false
        else
          some false
    )
  )
end Go.Proofs.YtobbifgmjkgkfaaDoor
