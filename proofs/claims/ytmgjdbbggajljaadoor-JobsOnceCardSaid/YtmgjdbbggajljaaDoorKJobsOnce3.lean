/- Never more wait than may, and of each key one; what waits goes in the order in which it came last. (part 3 of 6) -/
import Derived.Test.YtmgjdbbggajljaaDoorKJobsOnce2
import Derived.Carry
import Derived.ChangeArms
import Derived.ChangeOld
import Derived.KernelRfl
import Derived.LaidEql
import Derived.Laws.RangeString
import Derived.Lib.AppendZeros
import Derived.MapKept
import Derived.RowKitTokens
import Derived.Scope
import Derived.Stop.Asserts
import Derived.Test.YtmgjdbbggajljaaDoorProg
import Derived.WalkKit
import Derived.WideShapes
namespace Go.Va
open Go Go.RowKit
set_option linter.unusedVariables false
set_option linter.unusedSimpArgs false

def argG (w : World) : Ghost := ⟨fun b o => match w.cell? ⟨b, o, none⟩ with | some v => if v.oneCell' = true then some v else none | none => none, fun _ => none, fun _ => none, 0, fun _ => false, fun _ => 0⟩
theorem argG_fz {w : World} {b o : Nat} {v : Value} (h : w.cell? ⟨b, o, none⟩ = some v) (h1 : v.oneCell' = true) : (argG w).fz b o = some v := by
  simp [argG, h, h1]
theorem argG_inv (w : World) {gl : List (Addr × Value)} (hgl : ∀ p ∈ gl, w.cell? p.1 = some p.2) : Inv w (argG w) w ⟨[], [], gl⟩ := by
  refine ⟨Below.refl _ _, fun b o v h => ?_, fun id c h => by simp at h, fun id b o c h => by simp [argG] at h, fun id b h => by simp [argG] at h, fun id b h => by simp [argG] at h, fun i j b c d h => by simp [argG] at h, fun t b top en h => by simp at h, fun t x h => by simp [argG] at h, fun t t' x x' h => by simp at h, Nat.le_refl _, fun b h => by simp [argG] at h, hgl, fun id a h => by simp at h⟩
  simp only [argG] at h
  split at h
  case h_2 => cases h
  rename_i u hu
  split at h
  case isFalse => cases h
  rename_i h1
  cases h
  exact ⟨hu, h1⟩
theorem ACall.said {P : Program} {n : FuncId} {args : List AV} {vs : Array Value} {w : World} {gl : List (Addr × Value)} (hgl : ∀ p ∈ gl, w.cell? p.1 = some p.2) (hc : ACall P n args ⟨[], [], gl⟩ (fun a τ => a = eB true ∧ τ = ⟨[], [], gl⟩)) (hr : RelL (argG w) vs.toList args) :
    Calls P n vs w fun e w' => e = .returned (.bool true) ∧ Below w.heap.size w w' :=
  (hc.2 w (argG w) w vs (argG_inv w hgl) hr).mono fun e w' ⟨v, a, σ', G', h1, _, h3, h4, h5, _⟩ => by
    subst h5
    cases h4
    exact ⟨h1, h3.below⟩

def Opens (P : Program) (t : TypeId) {α : Type} (e : α → AV) (wf : α → Prop) : Prop :=
  ∀ {H : Type} (enc : TypeId × Value → H) (w : World) (fuel : Nat) (cs : List Value) (x : DataW H × List MemPlace), DataW.trod enc P w 0 (fun _ => true) true fuel t cs = some x → ∃ y : α, wf y ∧ RelL (argG w) cs (e y).cells ∧ ∀ v ∈ cs, v.oneCell' = true
def wfI (k : IntKind) (n : Int) : Prop := k.min ≤ n ∧ n ≤ k.max
def wfL {α : Type} (wf : α → Prop) (l : List α) : Prop := l.length ≤ maxLen ∧ ∀ x ∈ l, wf x
def wfS (s : List (BitVec 8)) : Prop := s.length ≤ maxLen
def wfT {α : Type} (_ : α) : Prop := True
section
variable {P : Program} {Ty : TypeId → Option TI} {t E : TypeId}
theorem wf_iff {k : IntKind} {n : Int} (h : (Lit.int k n).wf = true) : wfI k n := by
  simp only [Lit.wf, Bool.and_eq_true, decide_eq_true_eq] at h; exact h
theorem opens_i {k : IntKind} (h : P.underlying t = some (.int k)) : Opens P t (eK k) (wfI k) := by
  intro H enc w fuel cs x hx
  obtain ⟨n, rfl, _, hw⟩ := DataW.trod_int h hx
  exact ⟨n, wf_iff hw, (RelL.nil _).cons (.int _ _), by simp [Value.oneCell']⟩
theorem opens_i64 (h : P.underlying t = some (.int .i64)) : Opens P t eI (wfI .i64) := opens_i h
theorem opens_u {k : IntKind} {m : Nat} (hs : k.signed = false) (hb : k.bits = m) (h : P.underlying t = some (.int k)) : Opens P t (@eU k m) wfT := by
  subst hb
  intro H enc w fuel cs x hx
  obtain ⟨n, rfl, _, hw⟩ := DataW.trod_int h hx
  have hw := wf_iff hw
  simp only [wfI, IntKind.min, IntKind.max, hs, Bool.false_eq_true, if_false] at hw
  refine ⟨BitVec.ofInt k.bits n, trivial, ?_, by simp [Value.oneCell']⟩
  have e : ((BitVec.ofInt k.bits n).toNat : Int) = n := by
    rw [BitVec.toNat_ofInt]
    have h2 : (2 : Int) ^ k.bits = ((2 ^ k.bits : Nat) : Int) := by simp
    rw [h2] at hw
    rw [Int.emod_eq_of_lt hw.1 (by omega), Int.toNat_of_nonneg hw.1]
  show RelL _ _ [AV.int k ((BitVec.ofInt k.bits n).toNat : Int)]
  rw [e]
  exact (RelL.nil _).cons (.int _ _)
theorem opens_s (h : P.underlying t = some .string) : Opens P t eS wfS := by
  intro H enc w fuel cs x hx
  obtain ⟨s, rfl, _, hs⟩ := DataW.trod_string h hx
  refine ⟨s.data.toList.map (·.toBitVec), ?_, ?_, by simp [Value.oneCell']⟩
  · simpa [wfS] using hs
  · show RelL _ _ [AV.str _]
    rw [mkB_of]
    exact (RelL.nil _).cons (.str _)
theorem cellsOf_ty (hT : TyOk P Ty) {i : TI} (h : Ty t = some i) : P.cellsOf t = i.sz := by
  obtain ⟨_, ti, z, h1, h2, _⟩ := hT t i h
  simp [Program.cellsOf, h1, h2]
theorem cellsOf_sz (hT : TyOk P Ty) {sz : Nat} (h : szOf Ty t = sz) (h0 : sz ≠ 0) : P.cellsOf t = sz := by
  unfold szOf at h
  split at h
  · rename_i i hi; rw [cellsOf_ty hT hi, h]
  · exact absurd h.symm h0
theorem opens_l (hT : TyOk P Ty) {sz : Nat} {α : Type} {e : α → AV} {wf : α → Prop} (h : P.underlying t = some (.slice E)) (he : Enc Ty E sz e) (ho : Opens P E e wf) : Opens P t (eL sz e) (wfL wf) := by
  intro H enc w fuel cs x hx
  rcases DataW.trod_slice h hx with ⟨rfl, _⟩ | ⟨a, len, cap, elems, rest, n, _, rfl, _, _, hlc, hcm, hel, hat, _, _⟩
  · exact ⟨[], ⟨Nat.zero_le _, fun x hx => by cases hx⟩, (RelL.nil _).cons (.sl0 none 0 .no sz (Nat.zero_le _) (.inl rfl)), by simp [Value.oneCell']⟩
  · rw [cellsOf_sz hT he.ty he.pos] at hat
    have key : ∀ i, i < len → ∃ cs' y, w.cells? 0 (a.add (i * sz)) sz = some cs' ∧ wf y ∧ RelL (argG w) cs' (e y).cells ∧ ∀ v ∈ cs', v.oneCell' = true := fun i hi => by
      have h1 := hat i hi
      rw [List.getElem?_eq_getElem (by omega)] at h1
      obtain ⟨cs', h2, h3⟩ := Option.bind_eq_some_iff.1 h1
      obtain ⟨y, h4, h5, h6⟩ := ho enc w n cs' _ h3
      exact ⟨cs', y, h2, h4, h5, h6⟩
    -- the values, one by one
    have all : ∀ m, m ≤ len → ∃ ys : List α, ys.length = m ∧ (∀ y ∈ ys, wf y) ∧ ∀ (i : Nat) (y : α), ys[i]? = some y → ∃ cs', w.cells? 0 (a.add (i * sz)) sz = some cs' ∧ RelL (argG w) cs' (e y).cells ∧ ∀ v ∈ cs', v.oneCell' = true := by
      intro m
      induction m with
      | zero => exact fun _ => ⟨[], rfl, (fun y hy => by cases hy), fun i y hy => by simp at hy⟩
      | succ m ih =>
        intro hm
        obtain ⟨ys, h1, h2, h3⟩ := ih (by omega)
        obtain ⟨cs', y, k1, k2, k3, k4⟩ := key m (by omega)
        refine ⟨ys ++ [y], by simp [h1], fun z hz => ?_, fun i z hz => ?_⟩
        · rcases List.mem_append.1 hz with hz | hz
          · exact h2 z hz
          · simp at hz; subst hz; exact k2
        · rw [List.getElem?_append] at hz
          split at hz
          · exact h3 i z hz
          · rename_i hi
            have : i - ys.length = 0 := by
              rcases Nat.eq_zero_or_pos (i - ys.length) with h0 | h0
              · exact h0
              · rw [List.getElem?_eq_none (by simp; omega)] at hz; cases hz
            rw [this] at hz
            simp at hz
            subst hz
            rw [show i = m by omega]
            exact ⟨cs', k1, k3, k4⟩
    obtain ⟨ys, h1, h2, h3⟩ := all len (Nat.le_refl _)
    refine ⟨ys, ⟨by omega, h2⟩, (RelL.nil _).cons ?_, by simp [Value.oneCell']⟩
    have hz : ∀ z ∈ ys.map e, z.cells.length = sz := fun z hz => by obtain ⟨y, _, rfl⟩ := List.mem_map.1 hz; exact he.len y
    cases ys with
    | nil =>
      simp at h1
      subst h1
      exact .sl0 _ _ .no sz hcm (.inl rfl)
    | cons y0 ys0 =>
      have hsp : a.spot = none := by
        obtain ⟨cs', k1, _, _⟩ := h3 0 y0 rfl
        obtain ⟨_, k2, k3⟩ := World.cells?_some k1
        have := k3 0 (Nat.pos_of_ne_zero he.pos)
        rw [Nat.zero_mul] at this
        have e0 : (a.add 0).add 0 = a := by simp [Addr.add]
        rw [e0, List.getElem?_eq_getElem (by have := Nat.pos_of_ne_zero he.pos; omega)] at this
        exact World.cell?_spot this
      obtain ⟨b, o, sp⟩ := a
      simp only at hsp
      subst hsp
      have hl : ((y0 :: ys0).map e).length = len := by rw [List.length_map]; exact h1
      have hcell : ∀ (i : Nat) (z : AV) (j : Nat) (u : AV), ((y0 :: ys0).map e)[i]? = some z → z.cells[j]? = some u → ∃ v, w.cell? ⟨b, o + i * sz + j, none⟩ = some v ∧ v.oneCell' = true ∧ Rel (argG w) v u := by
        intro i z j u e1 e2
        rw [List.getElem?_map, Option.map_eq_some_iff] at e1
        obtain ⟨y, e1, rfl⟩ := e1
        obtain ⟨cs', k1, k2, k3⟩ := h3 i y e1
        obtain ⟨_, k4, k5⟩ := World.cells?_some k1
        obtain ⟨v, hv, hr⟩ := k2.get e2
        have hj : j < sz := by rw [← k4]; exact (List.getElem?_eq_some_iff.1 hv).1
        have := k5 j hj
        rw [Addr.add_lit, Addr.add_lit, hv] at this
        exact ⟨v, this, k3 v (List.mem_of_getElem? hv), hr⟩
      have key2 := Rel.sl (G := argG w) b o cap .no sz ((y0 :: ys0).map e) (fun i j => (w.cell? ⟨b, o + i * sz + j, none⟩).getD undef) (by rw [hl]; exact hlc) hcm hz (fun i z j u e1 e2 => by
        obtain ⟨v, k1, k2, k3⟩ := hcell i z j u e1 e2
        rw [k1]
        exact argG_fz k1 k2) (fun i z j u e1 e2 => by
        obtain ⟨v, k1, k2, k3⟩ := hcell i z j u e1 e2
        rw [k1]
        exact k3) trivial
      rw [hl] at key2
      exact key2
theorem rel_piece {G : Ghost} {cs : List Value} {o s : Nat} {a b : List AV} (h : RelL G ((cs.drop o).take s) a) (k : RelL G (cs.drop (o + s)) b) : RelL G (cs.drop o) (a ++ b) := by
  have := h.append k
  rw [← List.drop_drop, List.take_append_drop] at this
  exact this
theorem rel_end {G : Ghost} {cs : List Value} {n : Nat} (h : cs.length = n) : RelL G (cs.drop n) [] := by
  rw [List.drop_of_length_le (by omega)]; exact RelL.nil G
theorem one_piece {cs : List Value} {o s : Nat} (h : ∀ v ∈ (cs.drop o).take s, v.oneCell' = true) (k : ∀ v ∈ cs.drop (o + s), v.oneCell' = true) : ∀ v ∈ cs.drop o, v.oneCell' = true := by
  intro v hv
  rw [← List.take_append_drop s (cs.drop o), List.drop_drop] at hv
  rcases List.mem_append.1 hv with hv | hv
  · exact h v hv
  · exact k v hv
theorem one_end {cs : List Value} {n : Nat} (h : cs.length = n) : ∀ v ∈ cs.drop n, v.oneCell' = true := by
  rw [List.drop_of_length_le (by omega)]; intro v hv; cases hv
theorem opens_f {fs : Array Field} {α : Type} {e : α → AV} {wf : α → Prop} {H : Type} {enc : TypeId × Value → H} {w : World} {m : Nat} {cs : List Value} {xs : List (DataW H × List MemPlace)} (hx : ∀ (i : Nat) (f : Field), fs[i]? = some f → DataW.trod enc P w 0 (fun _ => true) true m f.type ((cs.drop f.offset).take (P.cellsOf f.type)) = xs[i]?) (hl : xs.length = fs.size)
    (i : Nat) {f : Field} {o s : Nat} (hf : fs[i]? = some f) (ht : Opens P f.type e wf) (ho : f.offset = o) (hs : P.cellsOf f.type = s) : ∃ y, wf y ∧ RelL (argG w) ((cs.drop o).take s) (e y).cells ∧ ∀ v ∈ (cs.drop o).take s, v.oneCell' = true := by
  subst ho; subst hs
  have h1 := hx i f hf
  have hi : i < fs.size := (Array.getElem?_eq_some_iff.1 hf).1
  rw [List.getElem?_eq_getElem (by omega)] at h1
  exact ht enc w m _ _ h1
theorem Opens.arg {α : Type} {e : α → AV} {wf : α → Prop} (ho : Opens P t e wf) {sz : Nat} (he : Enc Ty t sz e) (hd : TdOk P t (tdOf Ty t)) {H : Type} {enc : TypeId × Value → H} {w : World} {r : Reach} {b0 : Nat} {v : Value} {d : DataW H} {ps : List MemPlace} (hval : Value.okWide P w r b0 t v) (h : DataW.Trod enc P w 0 (fun _ => true) true t v d ps) : ∃ y : α, wf y ∧ Rel (argG w) v (e y) := by
  obtain ⟨fuel, hf⟩ := h
  obtain ⟨y, h1, h2, _⟩ := ho enc w fuel _ _ hf
  refine ⟨y, h1, ?_⟩
  cases ha : isAggTD (tdOf Ty t) with
  | true =>
    have : ∃ cs, v = .agg cs := by
      cases htd : tdOf Ty t <;> rw [htd] at ha hd <;> simp [isAggTD] at ha
      · simp only [TdOk] at hd
        simp only [Value.okWide, hd] at hval
        obtain ⟨cs, h, _⟩ := hval; exact ⟨cs, h⟩
      · simp only [TdOk] at hd
        obtain ⟨fs, hd, _⟩ := hd
        simp only [Value.okWide, hd] at hval
        obtain ⟨cs, h, _⟩ := hval; exact ⟨cs, h⟩
    obtain ⟨cs, rfl⟩ := this
    rw [he.agg ha y]
    exact mkAgg (by simpa [Value.cells] using h2)
  | false =>
    rw [he.one ha y] at h2
    have hne : ∀ cs, v ≠ .agg cs := by
      rintro cs rfl
      have hl := h2.len
      simp only [Value.cells, List.length_singleton] at hl
      cases htd : tdOf Ty t <;> rw [htd] at ha hd <;> simp [isAggTD] at ha <;> simp only [TdOk] at hd
      case iface => obtain ⟨ms, hd⟩ := hd; simp [Value.okWide, hd, Cell.okWide, Cell.ok] at hval
      case func => obtain ⟨ps, rs, vv, hd⟩ := hd; simp [Value.okWide, hd, Cell.okWide, Cell.ok] at hval
      all_goals simp [Value.okWide, hd, Cell.okWide, Cell.ok] at hval
    have hc : v.cells.toList = [v] := by cases v <;> first | rfl | exact absurd rfl (hne _)
    rw [hc] at h2
    exact h2.at_ 0 v (e y) rfl rfl
end
mutual
def purA : AV → Bool
  | .sl .no _ es => purL es
  | .sl .full _ _ => false
  | .sl (.own _) _ _ => false
  | .agg cs => purL cs
  | .tup vs => purL vs
  | .fptr x _ => purL x
  | .iface _ v => purA v
  | .fn _ a b => purL a && purL b
  | .ref _ _ => false
  | .msl _ _ _ => false
  | .vec _ _ _ => false
  | .vc _ _ _ _ _ => false
  | .junk => true
  | .int _ _ => true
  | .bool _ => true
  | .str _ => true
  | .nilp => true
  | .nils => true
  | .nilm => true
  | .nilf => true
  | .nili => true
  | .spc _ => false
  | .mapr _ => false
  | .itc _ _ => false
  | .mpc _ _ => false
def purL : List AV → Bool
  | [] => true
  | a :: l => purA a && purL l
end
theorem purL_iff : ∀ {l : List AV}, purL l = true ↔ ∀ a ∈ l, purA a = true
  | [] => by simp [purL]
  | a :: l => by simp [purL, purL_iff (l := l)]
theorem pur_cells {a x : AV} (h : purA a = true) (hx : x ∈ a.cells) : purA x = true := by
  cases a with
  | agg cs =>
    have h' : purL cs = true := by simpa [purA] using h
    exact purL_iff.1 h' x hx
  | _ => simp [AV.cells] at hx; subst hx; exact h
theorem Rel.pur {G G2 : Ghost} (hz : ∀ b o u, G.fz b o = some u → G2.fz b o = some u) {v : Value} {a : AV} (h : Rel G v a) (hp : purA a = true) : Rel G2 v a := by
  induction h with
  | junk v => exact .junk v
  | int k n => exact .int k n
  | bool b => exact .bool b
  | str s => exact .str s
  | nilp => exact .nilp
  | nils => exact .nils
  | nilm => exact .nilm
  | nilf => exact .nilf
  | nili => exact .nili
  | spc id b h => cases hp
  | mapr id b h => cases hp
  | agg vs aas hl _ ih => exact .agg vs aas hl fun i v a h1 h2 => ih i v a h1 h2 (purL_iff.1 (by simpa [purA] using hp) a (List.mem_of_getElem? h2))
  | tup vs aas hl _ ih => exact .tup vs aas hl fun i v a h1 h2 => ih i v a h1 h2 (purL_iff.1 (by simpa [purA] using hp) a (List.mem_of_getElem? h2))
  | sl b o c t sz es val hc hm hzz hf _ ht ih =>
    cases t with
    | no =>
      have hp' : ∀ e ∈ es, purA e = true := purL_iff.1 (by simpa [purA] using hp)
      exact .sl b o c .no sz es val hc hm hzz (fun i e j a h1 h2 => hz _ _ _ (hf i e j a h1 h2)) (fun i e j a h1 h2 => ih i e j a h1 h2 (pur_cells (hp' e (List.mem_of_getElem? h1)) (List.mem_of_getElem? h2))) trivial
    | _ => cases hp
  | sl0 A c t sz hm ht =>
    cases t with
    | no => exact .sl0 A c .no sz hm (.inl rfl)
    | _ => cases hp
  | fptr b o off x val hf _ ih =>
    have hp' : ∀ e ∈ x, purA e = true := purL_iff.1 (by simpa [purA] using hp)
    exact .fptr b o off x val (fun j a h1 => hz _ _ _ (hf j a h1)) fun j a h1 => ih j a h1 (hp' a (List.mem_of_getElem? h1))
  | ref id off b h => cases hp
  | msl id off len c b hc h => cases hp
  | vec id sz len c b h0 hc hm h hs => cases hp
  | vec0 A id sz => cases hp
  | vc id sz off len c b hc hm h hs => cases hp
  | iface t v a _ ih => exact .iface t v a (ih (by simpa [purA] using hp))
  | fn f fs cs fa ca hl hk _ _ ih1 ih2 =>
    simp only [purA, Bool.and_eq_true] at hp
    exact .fn f fs cs fa ca hl hk (fun i v a h1 h2 => ih1 i v a h1 h2 (purL_iff.1 hp.1 a (List.mem_of_getElem? h2))) (fun i v a h1 h2 => ih2 i v a h1 h2 (purL_iff.1 hp.2 a (List.mem_of_getElem? h2)))
inductive BArg (σ : St) : AV → AV → Prop where
  | wk {a b : AV} (h : Wk a b) (hp : purA b = true) : BArg σ a b
  | vec {id sz n : Nat} {es : List AV} (hc : σ.objs[id]? = some (flat es)) (hsp : spcl (flat es) = false) (hn : n = es.length) (hz : ∀ e ∈ es, e.cells.length = sz) (hs : sz ≠ 0) (hp : purL es = true) : BArg σ (.vec id sz n) (.sl .no sz es)
  | vc {id sz off n cap : Nat} {cells es : List AV} (hc : σ.objs[id]? = some cells) (hsp : spcl cells = false) (hle : off + n * sz ≤ cells.length) (hcs : (cells.drop off).take (n * sz) = flat es) (hn : n = es.length) (hz : ∀ e ∈ es, e.cells.length = sz) (hs : sz ≠ 0) (hp : purL es = true) : BArg σ (.vc id sz off n cap) (.sl .no sz es)
inductive BArgs (σ : St) : List AV → List AV → Prop where
  | nil : BArgs σ [] []
  | cons {a b : AV} {aas bs : List AV} (h : BArg σ a b) (t : BArgs σ aas bs) : BArgs σ (a :: aas) (b :: bs)
theorem BArg.rel {σ : St} {w0 : World} {G : Ghost} {w : World} (hI : Inv w0 G w σ) {a b : AV} (h : BArg σ a b) {v : Value} (hr : Rel G v a) : Rel (argG w) v b := by
  have hz : ∀ b o u, G.fz b o = some u → (argG w).fz b o = some u := fun b o u hf => argG_fz (hI.fz b o u hf).1 (hI.fz b o u hf).2
  cases h with
  | wk h hp => exact (h G v hr).pur hz hp
  | @vec id sz n es hc hsp hn hzz hs hp =>
    have hfl := flat_length hzz
    cases hr with
    | vec0 A _ _ =>
      have hnil : es = [] := List.eq_nil_of_length_eq_zero hn.symm
      subst hnil
      exact .sl0 A 0 .no sz (Nat.zero_le _) (.inl rfl)
    | vec _ _ _ c b h0 hc' hm hl hbs =>
      have hne : flat es ≠ [] := fun he => by
        have h2 : (flat es).length = 0 := by rw [he]; rfl
        rw [hfl] at h2
        rcases Nat.mul_eq_zero.1 h2 with h | h
        · omega
        · exact hs h
      obtain ⟨b', T, vs, k1, k2, k3, k4, k5, k6⟩ := hI.loc _ _ hc hne hsp
      rw [hl] at k1
      injection k1 with k1
      subst k1
      have hrel : RelL (argG w) (vs.toList.take (flat es).length) (flat es) := ⟨k4.rel.len, fun i u a h1 h2 => (k4.rel.at_ i u a h1 h2).pur hz (by
        obtain ⟨e, he, ha⟩ := List.mem_flatMap.1 (show a ∈ es.flatMap AV.cells from by have := List.mem_of_getElem? h2; simpa [flat] using this)
        exact pur_cells (purL_iff.1 hp e he) ha)⟩
      rw [hn]
      refine Rel.mkSl (b := b) (o := 0) (t := .no) (by omega) hm hzz hrel (fun j u hu => ?_) trivial
      rw [Nat.zero_add]
      rw [List.getElem?_take] at hu
      split at hu
      · refine argG_fz ?_ (k5 u (List.mem_iff_getElem?.2 ⟨j, hu⟩))
        rw [cell_of_row _ _ _ vs T (0, 0) k3]
        simpa using hu
      · cases hu
  | @vc id sz off n cap cells es hc hsp hle hcs hn hzz hs hp =>
    have hfl := flat_length hzz
    cases hr with
    | vc _ _ _ _ _ b hc' hm hl hbs =>
      by_cases hne : cells = []
      · subst hne
        have h0 : n * sz = 0 := by rw [List.length_nil] at hle; omega
        have hn0 : n = 0 := by
          rcases Nat.mul_eq_zero.1 h0 with h | h
          · exact h
          · exact absurd h hs
        subst hn0
        have hnil : es = [] := List.eq_nil_of_length_eq_zero hn.symm
        subst hnil
        exact .sl0 _ cap .no sz hm (.inl rfl)
      · obtain ⟨b', T, vs, k1, k2, k3, k4, k5, k6⟩ := hI.loc _ _ hc hne hsp
        rw [hl] at k1
        injection k1 with k1
        subst k1
        have hvs : cells.length ≤ vs.size := k4.le
        have hcl : (flat es).length = n * sz := by rw [hfl, ← hn]
        have hrel : RelL (argG w) ((vs.toList.drop off).take (n * sz)) (flat es) := ⟨by rw [hcl, List.length_take, List.length_drop, Array.length_toList]; omega, fun i u a h1 h2 => by
          have hi : i < n * sz := by rw [← hcl]; exact (List.getElem?_eq_some_iff.1 h2).1
          rw [List.getElem?_take, if_pos hi, List.getElem?_drop] at h1
          have h3 := h2
          rw [← hcs, List.getElem?_take, if_pos hi, List.getElem?_drop] at h3
          refine (k4.rel.at_ (off + i) u a (by rw [List.getElem?_take, if_pos (by omega)]; exact h1) h3).pur hz ?_
          obtain ⟨e, he, ha⟩ := List.mem_flatMap.1 (show a ∈ es.flatMap AV.cells from by have := List.mem_of_getElem? h2; simpa [flat] using this)
          exact pur_cells (purL_iff.1 hp e he) ha⟩
        rw [hn] at hrel hc' ⊢
        refine Rel.mkSl (b := b) (o := off) (t := .no) hc' hm hzz hrel (fun j u hu => ?_) trivial
        rw [List.getElem?_take] at hu
        split at hu
        · rw [List.getElem?_drop] at hu
          refine argG_fz ?_ (k5 u (List.mem_iff_getElem?.2 ⟨off + j, hu⟩))
          rw [cell_of_row _ _ _ vs T (0, 0) k3]
          simpa using hu
        · cases hu
theorem BArgs.rel {σ : St} {w0 : World} {G : Ghost} {w : World} (hI : Inv w0 G w σ) : ∀ {aas bs : List AV} (_ : BArgs σ aas bs) {vs : List Value}, RelL G vs aas → RelL (argG w) vs bs
  | _, _, .nil, vs, h => ⟨h.len, fun i v a _ h2 => by simp at h2⟩
  | _, _, .cons (a := a) h t, vs, hr => by
    cases vs with
    | nil => have := hr.len; simp at this
    | cons v vs =>
      exact RelL.cons (h.rel hI (hr.at_ 0 v a rfl rfl)) (t.rel hI ⟨by simpa using hr.len, fun i u b e1 e2 => hr.at_ (i + 1) u b (by simpa using e1) (by simpa using e2)⟩)
def sclA : AV → Bool
  | .int _ _ => true
  | .bool _ => true
  | .str _ => true
  | .tup [] => true
  | .tup [.int _ _, .bool _] => true
  | .tup [.int _ _, .int _ _] => true
  | _ => false
section
variable {P : Program} {Ty : TypeId → Option TI} {σ : St} {fr : Nat → AV}
theorem Inv.wko {w0 : World} {G : Ghost} {w : World} {σ : St} (h : Inv w0 G w σ) {id : Nat} {c c' : List AV} (hc : σ.objs[id]? = some c) (hsp : spcl c = false) (hw : WkL c c') : Inv w0 G w ⟨σ.objs.set id c', σ.opn, σ.gl⟩ := by
  have hlen : ∀ {a b : List AV}, WkL a b → a.length = b.length := by
    intro a b h
    induction h with
    | nil => rfl
    | cons _ _ ih => simp [ih]
  have hl := hlen hw
  have hlt := (List.getElem?_eq_some_iff.1 hc).1
  have key : ∀ (i : Nat) (d : List AV), (σ.objs.set id c')[i]? = some d → d ≠ [] → ∃ d', σ.objs[i]? = some d' ∧ d' ≠ [] ∧ (spcl d = false → spcl d' = false) ∧ WkL d' d := by
    intro i d hd hn
    rw [List.getElem?_set] at hd
    split at hd
    · rename_i he; subst he
      have hd' : c' = d := by
        first
          | exact Option.some.inj hd
          | (rw [if_pos hlt] at hd; exact Option.some.inj hd)
      subst hd'
      exact ⟨c, hc, fun h => by rw [h] at hl; exact hn (List.eq_nil_of_length_eq_zero hl.symm), fun _ => hsp, hw⟩
    · exact ⟨d, hd, hn, fun h => h, .refl d⟩
  refine ⟨h.below, h.fz, fun i d hd hn hs => ?_, fun i b o d hl' hd hn => ?_, h.loclt, fun i b hl' => by simpa using h.locdom i b hl', fun i j b d e hi hj hd he hn hn' => ?_, fun t b top en ho ht => ?_, h.tokdom, h.tokinj, h.nt, h.lit, h.gl, h.sp_to (.refl G) (fun _ _ _ h => h) (fun i a h1 h2 => by
      simp only at h1
      rw [List.getElem?_set] at h1
      split at h1
      · have e : c' = [a] := by
          first
            | exact Option.some.inj h1
            | (rw [if_pos (by omega)] at h1; exact Option.some.inj h1)
        obtain ⟨b, T, vs, e1, e2, e3, e4, e5, e6⟩ := h.loc id c hc (fun h0 => by rw [h0] at hl; rw [e] at hl; cases hl) hsp
        have hx := rell_nsp (hw.rel e4.rel)
        rw [e] at hx
        simp only [spcl] at hx
        rw [hx] at h2; cases h2
      · exact h1)⟩
  · obtain ⟨d', a1, a2, aq, a3⟩ := key i d hd hn
    obtain ⟨b, T, vs, e1, e2, e3, e4, e5, e6⟩ := h.loc i d' a1 a2 (aq hs)
    have hdl := hlen a3
    exact ⟨b, T, vs, e1, e2, e3, ⟨by rw [← hdl]; exact e4.le, by rw [← hdl]; exact a3.rel e4.rel⟩, e5, e6⟩
  · obtain ⟨d', a1, a2, _⟩ := key i d hd hn
    exact h.locfz i b o d' hl' a1 a2
  · obtain ⟨d', a1, a2, _⟩ := key i d hd hn
    obtain ⟨e', b1, b2, _⟩ := key j e he hn'
    exact h.locinj i j b d' e' hi hj a1 b1 a2 b2
  · obtain ⟨e1, e2, e3, e4⟩ := h.tok t b top en ho ht
    refine ⟨e1, e2, e3, fun i hi => ?_⟩
    have h0 := e4 i hi
    rw [List.getElem?_set]
    split
    · rename_i he; subst he
      rw [hc] at h0; cases h0
      have : c' = [] := List.eq_nil_of_length_eq_zero hl.symm
      subst this
      first | rfl | rw [if_pos hlt]
    · exact h0
theorem AWP.wko {n : Nat} {c : Code} {Q : AExit → (Nat → AV) → St → Prop} {l : List (Nat × AV)} {σ0 : St} {O : List (Nat × List AV)} {A : List Nat} (hH : Holds σ0 O A σ) (k : Nat) {id : Nat} {c0 c1 : List AV} (hk : O[k]? = some (id, c0)) (hw : WkL c0 c1) (h : ∀ τ, Holds σ0 (O.set k (id, c1)) A τ → AWP P n c Q (Va.fm l) τ) (hsp : spcl c0 = false := by first | rfl | exact spcl_cL (by assumption) _) : AWP P n c Q (Va.fm l) σ := fun w0 G a w hS =>
  h _ (hH.put k hk c1) w0 G a w ⟨hS.inv.wko (hH.at_ k hk) hsp hw, hS.frm, hS.size, hS.defers⟩
end
end Go.Va
namespace Go.Va
open Go Go.RowKit
section
variable {P : Program} {Ty : TypeId → Option TI} {σ σ' : St} {fr : Nat → AV}
def eqCells (P : Program) : List Field → List AV → List AV → Option Bool
  | [], _, _ => some true
  | f :: fs, cs, ds => if f.name = "_" then none else match cs[f.offset]?, ds[f.offset]?, P.underlying f.type with
    | some (.int k a), some (.int k' b), some (.int _) => if k = k' then (if a == b then eqCells P fs cs ds else some false) else none
    | some (.str a), some (.str b), some .string => if decide (a = b) then eqCells P fs cs ds else some false
    | some (.bool a), some (.bool b), some .bool => if a == b then eqCells P fs cs ds else some false
    | _, _, _ => none
variable {d : Option Tmp} {ty : TypeId} {pos : String} {af : Array Edge} {g : Option (Nat × Bool)} {ox oy oi : Operand} {T T' E U : TypeId}
end
end Go.Va
namespace Go.Va
open Go Go.RowKit
set_option linter.unusedVariables false
set_option linter.unusedSimpArgs false
section
variable {P : Program} {Ty : TypeId → Option TI} {σ σ0 : St} {O : List (Nat × List AV)} {A : List Nat} {fr : Nat → AV} {d : Option Tmp} {ty : TypeId} {pos : String} {af : Array Edge} {g : Option (Nat × Bool)} {ox oy oi : Operand} {T T' E U : TypeId} {α : Type} {e : α → AV} {sz id off cap : Nat}
structure PartV (e : α → AV) (sz : Nat) (c : List AV) (off cap : Nat) (l : List α) : Prop where
  le : off + l.length * sz ≤ c.length
  at_ : (c.drop off).take (l.length * sz) = cL e l
  room : l.length ≤ cap
  nsp : spcl c = false
def vco (sz off cap l : Nat) : Nat := if cap = l then off else off + l * sz
theorem PartV.all (he : Enc Ty E sz e) {l : List α} (h : l.length ≤ cap) : PartV e sz (cL e l) 0 cap l :=
  have hl := cL_length he.len l
  ⟨by rw [hl]; omega, by rw [List.drop_zero, List.take_of_length_le (by rw [hl]; exact Nat.le_refl _)], h, spcl_cL he l⟩
theorem PartV.cutN (he : Enc Ty E sz e) {c : List AV} {l : List α} (hp : PartV e sz c off cap l) {a b : Nat} (h1 : a ≤ b) (h2 : b ≤ l.length) : PartV e sz c (vco sz off cap a) (cap - a) ((l.take b).drop a) := by
  have hlen : ((l.take b).drop a).length = b - a := by rw [List.length_drop, List.length_take]; omega
  have hroom := hp.room
  have hle := hp.le
  have hab : (b - a) * sz = b * sz - a * sz := Nat.sub_mul _ _ _
  have hb : b * sz ≤ l.length * sz := Nat.mul_le_mul_right _ h2
  have ha : a * sz ≤ b * sz := Nat.mul_le_mul_right _ h1
  unfold vco
  by_cases hc : cap = a
  · rw [if_pos hc]
    have h0 : b - a = 0 := by omega
    refine ⟨by rw [hlen, h0]; omega, ?_, by omega, hp.nsp⟩
    rw [hlen, h0, Nat.zero_mul, List.take_zero, List.eq_nil_of_length_eq_zero (hlen.trans h0)]
    rfl
  · rw [if_neg hc]
    refine ⟨by rw [hlen, hab]; omega, ?_, by omega, hp.nsp⟩
    rw [hlen, ← cL_drop he.len, ← cL_take he.len, ← hp.at_, List.take_take, Nat.min_eq_left hb, List.drop_take, List.drop_drop, hab]
theorem PartV.cut (he : Enc Ty E sz e) {c : List AV} {l z : List α} (hp : PartV e sz c off cap l) {lo hi : Int} (h : cutO l lo hi = some z) : PartV e sz c (vco sz off cap lo.toNat) (cap - lo.toNat) z := by
  unfold cutO at h
  split at h <;> cases h
  exact hp.cutN he (by omega) (by omega)
theorem PartV.cutFrom (he : Enc Ty E sz e) {c : List AV} {l z : List α} (hp : PartV e sz c off cap l) {lo : Int} (h : cutFrom l lo = some z) : PartV e sz c (vco sz off cap lo.toNat) (cap - lo.toNat) z := by
  unfold Va.cutFrom at h
  split at h <;> cases h
  have := hp.cutN he (a := lo.toNat) (b := l.length) (by omega) (Nat.le_refl _)
  rwa [List.take_length] at this
end
end Go.Va
namespace Go.Va
open Go Go.RowKit
section
variable {P : Program} {Ty : TypeId → Option TI} {σ σ0 : St} {O : List (Nat × List AV)} {A : List Nat} {fr : Nat → AV} {d : Option Tmp} {ty : TypeId} {pos : String} {af : Array Edge} {g : Option (Nat × Bool)} {ox oy : Operand} {T E U S : TypeId}
end
end Go.Va
namespace Go.Va
open Go Go.RowKit
section
variable {P : Program} {Ty : TypeId → Option TI}
variable {σ σ0 : St} {O : List (Nat × List AV)} {A : List Nat} {fr : Nat → AV} {d : Option Tmp} {ty : TypeId} {pos : String} {af : Array Edge} {g : Option (Nat × Bool)} {ox oy : Operand} {T E U S : TypeId} {α : Type} {e : α → AV} {sz id off cap : Nat}
end
end Go.Va
namespace Go.Va
open Go Go.RowKit
def cut3 {α : Type} (l : List α) (k h m : Int) : Option (List α) := if 0 ≤ k ∧ k ≤ h ∧ h ≤ m ∧ m ≤ l.length then some ((l.take h.toNat).drop k.toNat) else none
section
variable {P : Program} {Ty : TypeId → Option TI} {σ : St} {fr : Nat → AV} {d : Option Tmp} {ty : TypeId} {pos : String} {af : Array Edge} {g : Option (Nat × Bool)} {ox oy : Operand} {T E : TypeId} {α : Type} {e : α → AV} {sz : Nat} {k : Tok}
end
end Go.Va
namespace Go.Va
open Go Go.RowKit
inductive NkL (t : Nat) : List AV → List AV → Prop where
  | nil : NkL t [] []
  | same {a : AV} {l m : List AV} (h : NkL t l m) : NkL t (a :: l) (a :: m)
  | tok {sz : Nat} {l m : List AV} (h : NkL t l m) : NkL t (.nils :: l) (.sl (.own t) sz [] :: m)
theorem NkL.len {t : Nat} {l m : List AV} (h : NkL t l m) : l.length = m.length := by
  induction h with
  | nil => rfl
  | same _ ih => simp [ih]
  | tok _ ih => simp [ih]
theorem NkL.rel {t : Nat} {l m : List AV} (h : NkL t l m) {G : Ghost} (ht : t < G.nt) : ∀ {vs : List Value}, RelL G vs l → RelL G vs m := by
  induction h with
  | nil => exact fun h => h
  | same _ ih =>
    intro vs hr
    cases vs with
    | nil => have := hr.len; simp at this
    | cons v vs => exact RelL.cons (hr.at_ 0 v _ rfl rfl) (ih ⟨by simpa using hr.len, fun i u a e1 e2 => hr.at_ (i + 1) u a (by simpa using e1) (by simpa using e2)⟩)
  | tok _ ih =>
    intro vs hr
    cases vs with
    | nil => have := hr.len; simp at this
    | cons v vs =>
      have h1 := hr.at_ 0 v _ rfl rfl
      cases h1
      exact RelL.cons (.sl0 none 0 _ _ (Nat.zero_le _) (.inr ⟨rfl, ht⟩)) (ih ⟨by simpa using hr.len, fun i u a e1 e2 => hr.at_ (i + 1) u a (by simpa using e1) (by simpa using e2)⟩)
theorem Inv.tokO {w0 : World} {G : Ghost} {w : World} {σ : St} (h : Inv w0 G w σ) {id t : Nat} {c c' : List AV} (hc : σ.objs[id]? = some c) (hsp : spcl c = false) (hw : NkL t c c') (ht : t < G.nt) : Inv w0 G w ⟨σ.objs.set id c', σ.opn, σ.gl⟩ := by
  have hl := hw.len
  have hlt := (List.getElem?_eq_some_iff.1 hc).1
  have key : ∀ (i : Nat) (d : List AV), (σ.objs.set id c')[i]? = some d → d ≠ [] → ∃ d', σ.objs[i]? = some d' ∧ d' ≠ [] ∧ (spcl d = false → spcl d' = false) ∧ d'.length = d.length ∧ ∀ vs, RelL G vs d' → RelL G vs d := by
    intro i d hd hn
    rw [List.getElem?_set] at hd
    split at hd
    · rename_i he; subst he
      have hd' : c' = d := by
        first
          | exact Option.some.inj hd
          | (rw [if_pos hlt] at hd; exact Option.some.inj hd)
      subst hd'
      exact ⟨c, hc, fun h => by rw [h] at hl; exact hn (List.eq_nil_of_length_eq_zero hl.symm), fun _ => hsp, hl, fun vs hr => hw.rel ht hr⟩
    · exact ⟨d, hd, hn, fun h => h, rfl, fun _ h => h⟩
  refine ⟨h.below, h.fz, fun i d hd hn hs => ?_, fun i b o d hl' hd hn => ?_, h.loclt, fun i b hl' => by simpa using h.locdom i b hl', fun i j b d e hi hj hd he hn hn' => ?_, fun t b top en ho ht => ?_, h.tokdom, h.tokinj, h.nt, h.lit, h.gl, h.sp_to (.refl G) (fun _ _ _ h => h) (fun i a h1 h2 => by
      simp only at h1
      rw [List.getElem?_set] at h1
      split at h1
      · have e : c' = [a] := by
          first
            | exact Option.some.inj h1
            | (rw [if_pos (by omega)] at h1; exact Option.some.inj h1)
        obtain ⟨b, T, vs, e1, e2, e3, e4, e5, e6⟩ := h.loc id c hc (fun h0 => by rw [h0] at hl; rw [e] at hl; cases hl) hsp
        have hx := rell_nsp (hw.rel ht e4.rel)
        rw [e] at hx
        simp only [spcl] at hx
        rw [hx] at h2; cases h2
      · exact h1)⟩
  · obtain ⟨d', a1, a2, aq, a3, a4⟩ := key i d hd hn
    obtain ⟨b, T, vs, e1, e2, e3, e4, e5, e6⟩ := h.loc i d' a1 a2 (aq hs)
    exact ⟨b, T, vs, e1, e2, e3, ⟨by rw [← a3]; exact e4.le, by rw [← a3]; exact a4 _ e4.rel⟩, e5, e6⟩
  · obtain ⟨d', a1, a2, _⟩ := key i d hd hn
    exact h.locfz i b o d' hl' a1 a2
  · obtain ⟨d', a1, a2, _⟩ := key i d hd hn
    obtain ⟨e', b1, b2, _⟩ := key j e he hn'
    exact h.locinj i j b d' e' hi hj a1 b1 a2 b2
  · obtain ⟨e1, e2, e3, e4⟩ := h.tok t b top en ho ht
    refine ⟨e1, e2, e3, fun i hi => ?_⟩
    have h0 := e4 i hi
    rw [List.getElem?_set]
    split
    · rename_i he; subst he
      rw [hc] at h0; cases h0
      have : c' = [] := List.eq_nil_of_length_eq_zero hl.symm
      subst this
      first | rfl | rw [if_pos hlt]
    · exact h0
theorem AWP.tokO {P : Program} {n : Nat} {c : Code} {Q : AExit → (Nat → AV) → St → Prop} {l : List (Nat × AV)} {σ0 σ : St} {O : List (Nat × List AV)} {A : List Nat} (hH : Holds σ0 O A σ) (k : Nat) {id : Nat} {c0 : List AV} (hk : O[k]? = some (id, c0)) {c1 : Nat → List AV} (hn : ∀ t, NkL t c0 (c1 t))
    (h : ∀ t τ, Holds σ0 (O.set k (id, c1 t)) (t :: A) τ → AWP P n c Q (Va.fm l) τ) (hsp : spcl c0 = false := by first | rfl | exact spcl_cL (by assumption) _) : AWP P n c Q (Va.fm l) σ := fun w0 G a w hS => by
  obtain ⟨hle, hI⟩ := hS.inv.closed .no
  have hm : Holds σ0 O (σ.opn.length :: A) σ.more := hH.more
  have hc : σ.more.objs[id]? = some c0 := hm.at_ k hk
  have hI2 : Inv w0 _ w ⟨σ.more.objs.set id (c1 σ.opn.length), σ.more.opn, σ.more.gl⟩ := Inv.tokO hI hc hsp (hn _) (Nat.lt_succ_self _)
  refine wp_mono (h _ _ (hm.put k hk (c1 σ.opn.length)) w0 _ a w ⟨hI2, hS.frm.mono hle, hS.size, hS.defers⟩) ?_
  rintro e a' w' ⟨ae, fr', σ', G', k1, k2, k3, k4⟩
  exact ⟨ae, fr', σ', G', k1, hle.trans k2, k3, k4⟩
end Go.Va
namespace Go.Va
open Go Go.RowKit
set_option linter.unusedVariables false
set_option linter.unusedSimpArgs false
section
variable {P : Program} {Ty : TypeId → Option TI} {σ : St} {fr : Nat → AV} {d : Option Tmp} {ty : TypeId} {pos : String} {af : Array Edge} {g : Option (Nat × Bool)} {ox oy : Operand} {T T' E : TypeId} {k : Tok} {sz : Nat} {es : List AV}
theorem o_nilq (hT : TyOk P Ty) (hd : tdOf Ty T = .slice E) (hx : aeval fr ox = .sl k sz es) (hy : aeval fr oy = .nils) : OpS P ⟨d, .binOp .eql T ox oy T', ty, pos, af, g⟩ fr σ (fun a τ => (∃ b, a = .bool b ∧ (b = true → es = [])) ∧ τ = σ) := by
  intro w0 G act w Q K' hI hr hK
  have r1 := hr ox (by simp [Op.operands])
  have r2 := hr oy (by simp [Op.operands])
  rw [hx] at r1; rw [hy] at r2
  have hu := tdOf_ok hT hd (by simp)
  have e2 : act.eval oy = .slice none 0 0 := by
    generalize act.eval oy = v at r2
    cases r2
    rfl
  have e1 : ∃ A n c, act.eval ox = .slice A n c ∧ (A = none → es = []) := by
    generalize act.eval ox = v at r1
    cases r1 with
    | sl b o c t sz es val hc hm hz hf hr ht => exact ⟨_, _, _, rfl, fun h => by cases h⟩
    | sl0 A c t sz hm ht => exact ⟨A, 0, c, rfl, fun _ => rfl⟩
  obtain ⟨A, m, c, e1, h1⟩ := e1
  have hrun : (execOp act.eval ⟨d, .binOp .eql T ox oy T', ty, pos, af, g⟩).run P w = .ok (.value (.bool A.isNone)) w := by
    have he0 : ∀ d : Nat, (Op.equalIn (d + 1) T (.slice A m c) (.slice none 0 0)).run P w = .ok A.isNone w := fun d => by
      cases A with
      | none => simp [Op.equalIn, run_underlying hu]
      | some a => simp [Op.equalIn, run_underlying hu]
    have he : (Op.equalIn 10000 T (.slice A m c) (.slice none 0 0)).run P w = .ok A.isNone w := he0 9999
    have he' : (Op.equal T (.slice A m c) (.slice none 0 0)).run P w = .ok A.isNone w := he
    simp [execOp, e1, e2, eqGuard, binOp, he']
  unfold Oper.wp
  rw [hrun]
  exact hK _ (.bool A.isNone) σ w G ⟨⟨_, rfl, fun hb => h1 (by simpa using hb)⟩, rfl⟩ (.refl G) hI (.bool _)
theorem wpo_nilq {n : Nat} {ops : Array Oper} {K : (Nat → AV) → St → Prop} {o : Oper} {rest : List Oper} {l : List (Nat × AV)} {t : Nat} {es : List AV} (hd : o.dst = some t) (hlt : Nat.ble (t + 1) n = true) (hg : guardOf ops o (fm l) = some true)
    (ho : OpS P o (fm l) σ (fun a τ => (∃ b, a = .bool b ∧ (b = true → es = [])) ∧ τ = σ)) (h : ∀ b, (b = true → es = []) → wpo P n ops K rest (fm ((t, .bool b) :: l)) σ) : wpo P n ops K (o :: rest) (fm l) σ := by
  unfold wpo
  refine ⟨by rw [hd]; exact Nat.le_of_ble_eq_true hlt, ?_⟩
  rw [hg]
  refine ho.mono fun a τ ⟨⟨b, ha, hb⟩, hτ⟩ => ?_
  subst ha hτ
  rw [hd]
  exact h b hb
theorem awp_nilif {n : Nat} {c : Operand} {x y : Code} {Q : AExit → (Nat → AV) → St → Prop} {fr : Nat → AV} {b : Bool} (hb : aeval fr c = .bool b) (h1 : b = true → AWP P n x Q fr σ) (h2 : AWP P n y Q fr σ) : AWP P n (.cond c x y) Q fr σ := awp_cond hb h1 (fun _ => h2)
end

section
variable {P : Program} {Ty : TypeId → Option TI} {σ σ0 : St} {O : List (Nat × List AV)} {A : List Nat} {fr : Nat → AV} {d : Option Tmp} {ty : TypeId} {pos : String} {af : Array Edge} {g : Option (Nat × Bool)} {ox oy : Operand} {T : TypeId}
theorem WkL.append : ∀ {a b c d : List AV}, WkL a b → WkL c d → WkL (a ++ c) (b ++ d)
  | _, _, _, _, .nil, h => h
  | _, _, _, _, .cons h t, k => .cons h (t.append k)
def cIt (x : List (BitVec 8) × Nat) : List AV := [.itc (mkB x.1) x.2]
def nxS (x : List (BitVec 8) × Nat) : Option (Option Int) := match x.1[x.2]? with
  | some b => if b.toNat < 128 then some (some (b.toNat : Int)) else none
  | none => some none
end

theorem Holds.cells {σ0 σ : St} {O : List (Nat × List AV)} {A : List Nat} (h : Holds σ0 O A σ) (k : Nat) {id : Nat} {c : List AV} (c' : List AV) (hk : O[k]? = some (id, c)) (he : c = c') : Holds σ0 (O.set k (id, c')) A σ := by
  subst he
  obtain ⟨hlt, hg⟩ := List.getElem?_eq_some_iff.1 hk
  rw [← hg, List.set_getElem_self]
  exact h
theorem Holds.brings {σ : St} (O : List (Nat × List AV)) (ho : ∀ p ∈ O, σ.objs[p.1]? = some p.2) (hd : (O.map (·.1)).Pairwise fun a b => a ≠ b) : Holds σ O [] σ :=
  ⟨fun _ _ h _ => h, fun _ h => h, Nat.le_refl _, Nat.le_refl _, ho, List.pairwise_map.1 hd, fun _ h => (by cases h), .nil, rfl⟩
theorem Holds.pw {σ0 σ : St} {O : List (Nat × List AV)} {A : List Nat} (h : Holds σ0 O A σ) {ids : List Nat} (ks : List Nat) (hk : ks.map (fun k => (O.map (·.1))[k]?) = ids.map some) (hs : ks.Pairwise fun a b => a ≠ b) : ids.Pairwise fun a b => a ≠ b := by
  rw [List.pairwise_iff_getElem] at hs ⊢
  intro i j hi hj hij
  have hl : ks.length = ids.length := by have := congrArg List.length hk; simpa using this
  have key : ∀ (x : Nat) (hx : x < ids.length), ∃ p, O[ks[x]'(by omega)]? = some p ∧ p.1 = ids[x] := fun x hx => by
    have e := congrArg (fun l => l[x]?) hk
    simp only [List.getElem?_map, List.getElem?_eq_getElem (show x < ks.length by omega), List.getElem?_eq_getElem hx, Option.map_some, Option.some.injEq] at e
    obtain ⟨p, h1, h2⟩ := Option.map_eq_some_iff.1 e
    exact ⟨p, h1, h2⟩
  obtain ⟨p, p1, p2⟩ := key i hi
  obtain ⟨q, q1, q2⟩ := key j hj
  rw [← p2, ← q2]
  exact dist_get h.dist p1 q1 (hs i j (by omega) (by omega) hij)
section
variable {P : Program} {σ : St}
def zipB (f : Nat → Nat) : Nat → List (List AV) → List (Nat × List AV)
  | _, [] => []
  | i, x :: l => (f i, x) :: zipB f (i + 1) l
theorem zipB_get (f : Nat → Nat) : ∀ (l : List (List AV)) (i k : Nat), (zipB f i l)[k]? = (l[k]?).map fun x => (f (i + k), x)
  | [], i, k => by simp [zipB]
  | x :: l, i, 0 => by simp [zipB]
  | x :: l, i, k + 1 => by
    simp only [zipB, List.getElem?_cons_succ]
    rw [zipB_get f l (i + 1) k, show i + 1 + k = i + (k + 1) by omega]
theorem zipB_mem {f : Nat → Nat} {l : List (List AV)} {i : Nat} {p : Nat × List AV} (h : p ∈ zipB f i l) : ∃ k, k < l.length ∧ p.1 = f (i + k) ∧ l[k]? = some p.2 := by
  obtain ⟨k, hk⟩ := List.mem_iff_getElem?.1 h
  rw [zipB_get] at hk
  obtain ⟨x, h1, rfl⟩ := Option.map_eq_some_iff.1 hk
  exact ⟨k, (List.getElem?_eq_some_iff.1 h1).1, rfl, h1⟩
inductive WkLL : List (List AV) → List (List AV) → Prop where
  | nil : WkLL [] []
  | cons {a b : List AV} {l m : List (List AV)} (hs : spcl a = false) (h : WkL a b) (t : WkLL l m) : WkLL (a :: l) (b :: m)
  | same {a b : List AV} {l m : List (List AV)} (h : a = b) (t : WkLL l m) : WkLL (a :: l) (b :: m)
theorem ACall.weaken {g : FuncId} {args : List AV} {K K' : AV → St → Prop} (h : ACall P g args σ K) (hk : ∀ a σ', K a σ' → ∃ σ1, (∀ w0 G w, Inv w0 G w σ' → Inv w0 G w σ1) ∧ K' a σ1) : ACall P g args σ K' :=
  ⟨h.1, fun w0 G w vs hI hr => (h.2 w0 G w vs hI hr).mono fun e w' ⟨v, a, σ', G', h1, h2, h3, h4, h5⟩ => by
    obtain ⟨σ1, k1, k2⟩ := hk a σ' h5
    exact ⟨v, a, σ1, G', h1, h2, k1 _ _ _ h3, h4, k2⟩⟩
def NewB {α : Type} (B : (Nat → Nat) → α → List (List AV)) (rest : List AV) (σ : St) : Option α → AV → St → Prop
  | none, a, τ => a = .tup (.nilp :: rest) ∧ τ = σ
  | some c, a, τ => a = .tup (.ref σ.objs.length 0 :: rest) ∧ τ = ⟨σ.objs ++ B (fun i => σ.objs.length + i) c, σ.opn, σ.gl⟩
def NewBE {α : Type} (B : (Nat → Nat) → α → List (List AV)) (rest : List AV) (σ : St) : Option α → AV → St → Prop
  | none, a, τ => a = .tup (.nilp :: rest) ∧ Holds σ [] [] τ
  | some c, a, τ => ∃ f : Nat → Nat, a = .tup (.ref (f 0) 0 :: rest) ∧ (∀ i, i < (B f c).length → σ.objs.length ≤ f i) ∧ Holds σ (zipB f 0 (B f c)) [] τ
theorem NewBE.some {α : Type} {B : (Nat → Nat) → α → List (List AV)} {rest : List AV} {σ τ : St} {c : α} (f : Nat → Nat) (h1 : ∀ i, i < (B f c).length → σ.objs.length ≤ f i) (h2 : Holds σ (zipB f 0 (B f c)) [] τ) : NewBE B rest σ (some c) (.tup (.ref (f 0) 0 :: rest)) τ := ⟨f, rfl, h1, h2⟩
theorem NewBE.none {α : Type} {B : (Nat → Nat) → α → List (List AV)} {rest : List AV} {σ τ : St} (h : Holds σ [] [] τ) : NewBE B rest σ none (.tup (.nilp :: rest)) τ := ⟨rfl, h⟩
variable {σ0 : St} {O : List (Nat × List AV)} {A' : List Nat} {fr : Nat → AV}
end
theorem Inv.reobj {w0 : World} {G : Ghost} {w : World} {σ : St} (h : Inv w0 G w σ) {id : Nat} {c c' : List AV} (hc : σ.objs[id]? = some c) (hsp : spcl c = false) (hne : c ≠ []) (hne' : c' ≠ []) (hr : ∀ b T vs, G.loc id = some b → w.heap[b]? = some (.cells vs T (0, 0)) → RelP G vs c → RelP G vs c') : Inv w0 G w ⟨σ.objs.set id c', σ.opn, σ.gl⟩ := by
  have hlt := (List.getElem?_eq_some_iff.1 hc).1
  obtain ⟨b0, T0, vs0, f1, f2, f3, f4, f5, f6⟩ := h.loc id c hc hne hsp
  have hr0 := hr b0 T0 vs0 f1 f3 f4
  have hat : ∀ (i : Nat) (d : List AV), (σ.objs.set id c')[i]? = some d → (i = id ∧ d = c') ∨ (i ≠ id ∧ σ.objs[i]? = some d) := by
    intro i d hd
    by_cases he : id = i
    · subst he
      rw [List.getElem?_set_self hlt] at hd
      exact .inl ⟨rfl, (Option.some.inj hd).symm⟩
    · rw [List.getElem?_set_ne he] at hd
      exact .inr ⟨Ne.symm he, hd⟩
  have hsome : ∀ (i : Nat) (d : List AV), (σ.objs.set id c')[i]? = some d → d ≠ [] → ∃ d', σ.objs[i]? = some d' ∧ d' ≠ [] := by
    intro i d hd hn
    rcases hat i d hd with ⟨rfl, rfl⟩ | ⟨_, e⟩
    · exact ⟨c, hc, hne⟩
    · exact ⟨d, e, hn⟩
  refine ⟨h.below, h.fz, fun i d hd hn hs => ?_, fun i b o d hl' hd hn => ?_, h.loclt, fun i b hl' => by simpa using h.locdom i b hl', fun i j b d e hi hj hd he hn hn' => ?_, fun t b top en ho ht => ?_, h.tokdom, h.tokinj, h.nt, h.lit, h.gl, h.sp_to (.refl G) (fun _ _ _ h => h) (fun i a h1 h2 => ?_)⟩
  · rcases hat i d hd with ⟨rfl, rfl⟩ | ⟨_, e⟩
    · exact ⟨b0, T0, vs0, f1, f2, f3, hr0, f5, f6⟩
    · exact h.loc i d e hn hs
  · obtain ⟨d', a1, a2⟩ := hsome i d hd hn
    exact h.locfz i b o d' hl' a1 a2
  · obtain ⟨d', a1, a2⟩ := hsome i d hd hn
    obtain ⟨e', b1, b2⟩ := hsome j e he hn'
    exact h.locinj i j b d' e' hi hj a1 b1 a2 b2
  · obtain ⟨e1, e2, e3, e4⟩ := h.tok t b top en ho ht
    refine ⟨e1, e2, e3, fun i hi => ?_⟩
    have h0 := e4 i hi
    by_cases he : id = i
    · subst he; rw [hc] at h0; exact absurd (Option.some.inj h0) hne
    · simp only; rw [List.getElem?_set_ne he]; exact h0
  · rcases hat i [a] h1 with ⟨rfl, e⟩ | ⟨_, e⟩
    · have hx := hr0.nsp
      rw [← e] at hx
      simp only [spcl] at hx
      rw [hx] at h2; cases h2
    · exact e
theorem RelL.set_at {G : Ghost} {vs : List Value} {cs : List AV} (h : RelL G vs cs) {j : Nat} {v : Value} {x : AV} (hv : vs[j]? = some v) (hx : Rel G v x) : RelL G vs (cs.set j x) := by
  have := h.set j hx
  obtain ⟨hlt, hg⟩ := List.getElem?_eq_some_iff.1 hv
  rwa [← hg, List.set_getElem_self] at this
section
variable {P : Program} {Ty : TypeId → Option TI} {n : Nat} {σ σ0 : St} {O : List (Nat × List AV)} {A : List Nat} {E : TypeId} {α : Type} {e : α → AV} {sz : Nat}
end
section
variable {P : Program} {Ty : TypeId → Option TI} {σ σ0 : St} {O : List (Nat × List AV)} {A : List Nat} {fr : Nat → AV} {d : Option Tmp} {ty : TypeId} {pos : String} {af : Array Edge} {g : Option (Nat × Bool)} {ox oy : Operand} {T E : TypeId} {α : Type} {e : α → AV} {sz : Nat}
theorem WkL.flat {a b : AV} (h : WkL a.cells b.cells) : ∀ n, WkL (flat (List.replicate n a)) (flat (List.replicate n b))
  | 0 => .nil
  | n + 1 => by
    simp only [List.replicate_succ, flat_cons]
    exact h.append (WkL.flat h n)
end

def chkFirst (B : Array Nat) (I : List Nat) (m n : Nat) : Bool := (List.range n).all fun k => decide (k < m) || I.all fun i => befB B k i
def chkAt (B : Array Nat) (S : List Nat) (i : Nat) : Bool := S.all fun s => s == i || (if s < i then befB B i s else befB B s i)
abbrev OA := List (Nat × List AV) × List Nat
inductive PhK where
  | p
  | r
  | a (c : List AV)
  | t (O : Nat → OA)
abbrev Ph := PhK × (Nat → AV)
def Ph.val (p : Ph) (id : Nat) : AV := match p.1 with
  | .a _ => p.2 id
  | _ => p.2 0
section
variable (P : Program) (σ0 : St)
def PhStep (ops : Array Oper) (S : List Nat) (i : Nat) (o : Oper) (p : Ph) (O : OA) (fr : Nat → AV) : Prop := match p.1 with
  | .a c => ∀ σ O' A, Holds σ0 O' A σ → ∃ id τ, AStep P ops o fr σ (p.2 id) τ ∧ (Holds σ0 ((id, c) :: O') A τ ∧ σ0.objs.length ≤ id)
  | .p => ∀ τ, AStep P ops o fr τ (p.2 0) τ
  | .r => chkAt (Region.before ops) S i = true ∧ ∀ X σ, Holds σ0 (O.1 ++ X) O.2 σ → AStep P ops o fr σ (p.2 0) σ
  | .t O' => S.contains i = true ∧ chkAt (Region.before ops) S i = true ∧ ∀ X σ, Holds σ0 (O.1 ++ X) O.2 σ → ∃ id τ, AStep P ops o fr σ (p.2 0) τ ∧ Holds σ0 ((O' id).1 ++ X) (O' id).2 τ ∧ σ0.objs.length ≤ id
def wpdU (ops : Array Oper) (S : List Nat) (K : (Nat → AV) → St → Prop) : Nat → List Oper → List Ph → List (Nat × List AV) → OA → (Nat → AV) → Prop
  | i, rest, [], acc, O, fr => ∀ σ, Holds σ0 (acc ++ O.1) O.2 σ → wpdS P ops S K i rest fr σ
  | _, [], _ :: _, _, _, _ => False
  | i, o :: rest, p :: ps, acc, O, fr => PhStep P σ0 ops S i o p O fr ∧ match p.1 with
    | .a c => ∀ id, σ0.objs.length ≤ id → wpdU ops S K (i + 1) rest ps ((id, c) :: acc) O (putO fr o.dst (p.2 id))
    | .t O' => ∀ id, σ0.objs.length ≤ id → wpdU ops S K (i + 1) rest ps acc (O' id) (putO fr o.dst (p.2 0))
    | _ => wpdU ops S K (i + 1) rest ps acc O (putO fr o.dst (p.2 0))
end
section
variable {P : Program} {w0 : World} {G : Ghost} {n : Nat} {σ0 : St} {O : OA} {ops : Array Oper} {S : List Nat}
def aasU (ps : List Ph) (ids : Nat → Nat) (k : Nat) : AV := match ps[k]? with
  | some p => p.val (ids k)
  | none => .junk
def isU (ps : List Ph) (k : Nat) : Bool := match ps[k]? with
  | some (.a _, _) => true
  | _ => false
def isT (ps : List Ph) (k : Nat) : Bool := match ps[k]? with
  | some (.t _, _) => true
  | _ => false
def isI (ps : List Ph) (k : Nat) : Bool := match ps[k]? with
  | some (.p, _) => false
  | some _ => true
  | none => false
def csU (ps : List Ph) (k : Nat) : List AV := match ps[k]? with
  | some (.a c, _) => c
  | _ => []
def OsU (ps : List Ph) (ids : Nat → Nat) (O : OA) : Nat → OA
  | 0 => O
  | i + 1 => match ps[i]? with
    | some (.t O', _) => O' (ids i)
    | _ => OsU ps ids O i
def accU (ps : List Ph) (ids : Nat → Nat) : Nat → List (Nat × List AV)
  | 0 => []
  | i + 1 => if isU ps i then (ids i, csU ps i) :: accU ps ids i else accU ps ids i
def lstU (ps : List Ph) : Nat → List Nat
  | 0 => []
  | i + 1 => if isU ps i then i :: lstU ps i else lstU ps i
theorem ClosedL.set {listed : Array Bool} (hc : ClosedL ops listed) {i : Nat} (hi : i ∈ Region.ready .any ops listed) : ClosedL ops (listed.setIfInBounds i true) := by
  obtain ⟨h0, o, ho, hall⟩ := mem_ready.1 hi
  intro k o' ho' hk e he hb
  by_cases hki : i = k
  · subst hki
    rw [ho] at ho'
    cases ho'
    exact getD_set_true (hall e he hb)
  · unfold Lst at hk
    rw [getD_set_ne false hki] at hk
    exact getD_set_true (hc k o' ho' hk e he hb)
end
section
variable {P : Program} {σ0 : St} {O : List (Nat × List AV)} {A : List Nat} {ops : Array Oper} {S : List Nat} {K : (Nat → AV) → St → Prop} {i : Nat} {o : Oper} {rest : List Oper} {ps : List Ph} {acc : List (Nat × List AV)} {l : List (Nat × AV)} {t : Tmp}
end
section
variable {P : Program} {Ty : TypeId → Option TI} {fr : Nat → AV} {σ : St} {d : Option Tmp} {ty T T' : TypeId} {pos : String} {af : Array Edge} {gd : Option (Nat × Bool)} {ox oy : Operand}
def chr1 (x : BitVec 8) : Option (List (BitVec 8)) := if x.toNat < 128 then some [x] else none
end

def Ghost.also (G : Ghost) (id new : Nat) : Ghost := { fz := G.fz, loc := fun i => if i = new then G.loc id else G.loc i, tok := G.tok, nt := G.nt, lit := G.lit, bsz := fun i => if i = new then G.bsz id else G.bsz i }
theorem Inv.also {w0 : World} {G : Ghost} {w : World} {σ : St} (h : Inv w0 G w σ) {id : Nat} {c : List AV} (hc : σ.objs[id]? = some c) : G.Le (G.also id σ.objs.length) ∧ Inv w0 (G.also id σ.objs.length) w ⟨σ.objs.set id [] ++ [c], σ.opn, σ.gl⟩ := by
  have hid := (List.getElem?_eq_some_iff.1 hc).1
  have hnew : ∀ b, G.loc σ.objs.length ≠ some b := fun b hb => by have := h.locdom _ _ hb; omega
  have hle : G.Le (G.also id σ.objs.length) := ⟨fun _ _ _ h => h, fun i b hi => by
    have : i ≠ σ.objs.length := fun e => by subst e; exact hnew b hi
    simp only [Ghost.also, if_neg this]; exact hi, fun _ _ h => h, Nat.le_refl _, fun _ h => h, fun i b hi => by
    have : i ≠ σ.objs.length := fun e => by subst e; exact hnew b hi
    simp only [Ghost.also, if_neg this]⟩
  have hat : ∀ (i : Nat) (d : List AV), (σ.objs.set id [] ++ [c])[i]? = some d → (i = σ.objs.length ∧ d = c) ∨ (i = id ∧ d = []) ∨ (i ≠ id ∧ i < σ.objs.length ∧ σ.objs[i]? = some d) := by
    intro i d hd
    by_cases hi : i < σ.objs.length
    · rw [List.getElem?_append_left (by simpa using hi)] at hd
      by_cases he : id = i
      · subst he
        rw [List.getElem?_set_self hid] at hd
        exact .inr (.inl ⟨rfl, (Option.some.inj hd).symm⟩)
      · rw [List.getElem?_set_ne he] at hd
        exact .inr (.inr ⟨Ne.symm he, hi, hd⟩)
    · rw [List.getElem?_append_right (by simpa using hi)] at hd
      have hl := (List.getElem?_eq_some_iff.1 hd).1
      simp only [List.length_set, List.length_singleton] at hl
      have e : i = σ.objs.length := by omega
      subst e
      simp at hd
      exact .inl ⟨rfl, hd.symm⟩
  have hloc : ∀ i b, (G.also id σ.objs.length).loc i = some b → (i = σ.objs.length ∧ G.loc id = some b) ∨ (i ≠ σ.objs.length ∧ G.loc i = some b) := by
    intro i b hi
    simp only [Ghost.also] at hi
    split at hi
    · exact .inl ⟨‹_›, hi⟩
    · exact .inr ⟨‹_›, hi⟩
  refine ⟨hle, ⟨h.below, h.fz, fun i d hd hn hs => ?_, fun i b o d hl hd hn => ?_, fun i b hl => ?_, fun i b hl => ?_, fun i j b d e hi hj hd he hn hn' => ?_, fun t b top en ho ht => ?_, h.tokdom, h.tokinj, h.nt, fun b hb => ?_, h.gl, fun i a hi hs => ?_⟩⟩
  · rcases hat i d hd with ⟨rfl, rfl⟩ | ⟨rfl, rfl⟩ | ⟨k1, k2, k3⟩
    · obtain ⟨b, T, vs, e1, e2, e3, e4, e5, e6⟩ := h.loc id d hc hn hs
      exact ⟨b, T, vs, by simp only [Ghost.also, if_true]; exact e1, e2, e3, e4.mono hle, e5, by simp only [Ghost.also, if_true]; exact e6⟩
    · exact absurd rfl hn
    · obtain ⟨b, T, vs, e1, e2, e3, e4, e5, e6⟩ := h.loc i d k3 hn hs
      exact ⟨b, T, vs, hle.loc _ _ e1, e2, e3, e4.mono hle, e5, e6.trans (hle.bsz _ _ e1).symm⟩
  · rcases hloc i b hl with ⟨rfl, k⟩ | ⟨k1, k⟩ <;> rcases hat _ d hd with ⟨e1, rfl⟩ | ⟨rfl, rfl⟩ | ⟨e1, e2, e3⟩
    · exact h.locfz id b o _ k hc hn
    · exact absurd rfl hn
    · omega
    · exact absurd e1 k1
    · exact absurd rfl hn
    · exact h.locfz i b o d k e3 hn
  · rcases hloc i b hl with ⟨rfl, k⟩ | ⟨k1, k⟩ <;> exact h.loclt _ b k
  · rcases hloc i b hl with ⟨rfl, k⟩ | ⟨k1, k⟩
    · simp
    · have := h.locdom _ b k; simp; omega
  · have key : ∀ (i : Nat) (d : List AV), (G.also id σ.objs.length).loc i = some b → (σ.objs.set id [] ++ [c])[i]? = some d → d ≠ [] → ∃ i', G.loc i' = some b ∧ σ.objs[i']? = some d ∧ ((i = σ.objs.length ∧ i' = id) ∨ (i ≠ σ.objs.length ∧ i' = i ∧ i ≠ id)) := by
      intro i d hi hd hn
      rcases hloc i b hi with ⟨rfl, k⟩ | ⟨k1, k⟩ <;> rcases hat _ d hd with ⟨e1, rfl⟩ | ⟨rfl, rfl⟩ | ⟨e1, e2, e3⟩
      · exact ⟨id, k, hc, .inl ⟨rfl, rfl⟩⟩
      · exact absurd rfl hn
      · omega
      · exact absurd e1 k1
      · exact absurd rfl hn
      · exact ⟨i, k, e3, .inr ⟨k1, rfl, e1⟩⟩
    obtain ⟨i', a1, a2, a3⟩ := key i d hi hd hn
    obtain ⟨j', b1, b2, b3⟩ := key j e hj he hn'
    have hij := h.locinj i' j' b d e a1 b1 a2 b2 hn hn'
    subst hij
    rcases a3 with ⟨p1, p2⟩ | ⟨p1, p2, p3⟩ <;> rcases b3 with ⟨q1, q2⟩ | ⟨q1, q2, q3⟩
    · omega
    · exact absurd (q2.symm.trans p2) q3
    · exact absurd (p2.symm.trans q2) p3
    · omega
  · obtain ⟨e1, e2, e3, e4⟩ := h.tok t b top en ho ht
    refine ⟨e1, e2, e3, fun i hi => ?_⟩
    rcases hloc i b hi with ⟨rfl, k⟩ | ⟨k1, k⟩
    · have := e4 id k
      rw [hc] at this
      obtain rfl := Option.some.inj this
      simp
    · have := e4 i k
      have hil := (List.getElem?_eq_some_iff.1 this).1
      simp only
      rw [List.getElem?_append_left (by simpa using hil)]
      by_cases he : id = i
      · subst he; rw [List.getElem?_set_self hid]
      · rw [List.getElem?_set_ne he]; exact this
  · obtain ⟨e1, e2, e3, e4⟩ := h.lit b hb
    exact ⟨e1, e2, fun i hi => by rcases hloc i b hi with ⟨_, k⟩ | ⟨_, k⟩ <;> exact e3 _ k, e4⟩
  · rcases hat i [a] hi with ⟨rfl, e⟩ | ⟨rfl, e⟩ | ⟨k1, k2, k3⟩
    · obtain ⟨b, o, e1, e2, e3, e4⟩ := h.sp id a (by rw [hc, e]) hs
      exact ⟨b, o, by simp only [Ghost.also, if_true]; exact e1, e2, e3, e4.mono hle⟩
    · cases e
    · obtain ⟨b, o, e1, e2, e3, e4⟩ := h.sp i a k3 hs
      exact ⟨b, o, hle.loc _ _ e1, e2, e3, e4.mono hle⟩
section
variable {P : Program} {n : Nat} {σ σ0 : St} {O : List (Nat × List AV)} {A : List Nat}
end
def St.shut (σ : St) (cl : List Nat) : St := ⟨σ.objs, cl.foldl (fun o t => o.set t false) σ.opn, σ.gl⟩
theorem shut_len (cl : List Nat) : ∀ o : List Bool, (cl.foldl (fun o t => o.set t false) o).length = o.length := by
  induction cl with
  | nil => intro o; rfl
  | cons t cl ih => intro o; simp [ih]
theorem shut_get (cl : List Nat) : ∀ (o : List Bool) (u : Nat), (cl.foldl (fun o t => o.set t false) o)[u]? = some true → o[u]? = some true ∧ u ∉ cl := by
  induction cl with
  | nil => intro o u h; exact ⟨h, by simp⟩
  | cons t cl ih =>
    intro o u h
    obtain ⟨h1, h2⟩ := ih _ u h
    by_cases he : t = u
    · subst he
      have hl := (List.getElem?_eq_some_iff.1 h1).1
      rw [List.length_set] at hl
      rw [List.getElem?_set_self hl] at h1
      cases h1
    · rw [List.getElem?_set_ne he] at h1
      exact ⟨h1, by simp [Ne.symm he, h2]⟩
theorem shut_in (cl : List Nat) : ∀ (o : List Bool) (u : Nat), o[u]? = some true → u ∉ cl → (cl.foldl (fun o t => o.set t false) o)[u]? = some true := by
  induction cl with
  | nil => intro o u h _; exact h
  | cons t cl ih =>
    intro o u h hn
    simp only [List.mem_cons, not_or] at hn
    exact ih _ u (by rw [List.getElem?_set_ne (Ne.symm hn.1)]; exact h) hn.2
def St.grow (σ : St) (B : List (Nat × List AV)) (L : List (List AV)) (cl : List Nat) (m : Nat) : St := ⟨(σ.puts B).objs ++ L, (σ.shut cl).opn ++ List.replicate m true, σ.gl⟩
theorem ren_names (n m : Nat) (f : Nat → Nat) (hf : ∀ k, k < m → n ≤ f k) (hinj : ∀ i j, i < m → j < m → f i = f j → i = j) :
    ∃ ρ : Nat → Option Nat, Inj ρ ∧ (∀ k, k < m → ρ (f k) = some (n + k)) ∧ (∀ i, i < n → ρ i = some i) ∧ (∀ i j, ρ i = some j → (∃ k, k < m ∧ f k = i ∧ j = n + k) ∨ (i = j ∧ j < n)) := by
  let ρ : Nat → Option Nat := fun i => match (List.range m).find? (fun k => decide (f k = i)) with | some k => some (n + k) | none => idl n i
  have hρ : ∀ k, k < m → ρ (f k) = some (n + k) := fun k hk => by
    show (match (List.range m).find? (fun k' => decide (f k' = f k)) with | some k => some (n + k) | none => idl n (f k)) = _
    cases hfd : (List.range m).find? (fun k' => decide (f k' = f k)) with
    | none =>
      have := List.find?_eq_none.1 hfd k (List.mem_range.2 hk)
      simp at this
    | some k' =>
      have h1 := List.find?_some hfd
      have h2 := List.mem_range.1 (List.mem_of_find?_eq_some hfd)
      simp only [decide_eq_true_eq] at h1
      rw [hinj k' k h2 hk h1]
  have hold : ∀ i, (∀ k, k < m → f k ≠ i) → ρ i = idl n i := fun i hi => by
    show (match (List.range m).find? (fun k' => decide (f k' = i)) with | some k => some (n + k) | none => idl n i) = _
    cases hfd : (List.range m).find? (fun k' => decide (f k' = i)) with
    | none => rfl
    | some k' =>
      have h1 := List.find?_some hfd
      have h2 := List.mem_range.1 (List.mem_of_find?_eq_some hfd)
      simp only [decide_eq_true_eq] at h1
      exact absurd h1 (hi k' h2)
  have hcase : ∀ i j, ρ i = some j → (∃ k, k < m ∧ f k = i ∧ j = n + k) ∨ (i = j ∧ j < n) := fun i j h => by
    by_cases hx : ∃ k, k < m ∧ f k = i
    · obtain ⟨k, hk, rfl⟩ := hx
      rw [hρ k hk] at h
      exact .inl ⟨k, hk, rfl, (Option.some.inj h).symm⟩
    · rw [hold i (fun k hk e => hx ⟨k, hk, e⟩)] at h
      exact .inr (idl_lt h)
  refine ⟨ρ, fun i i' j h1 h2 => ?_, hρ, fun i hi => ?_, hcase⟩
  · rcases hcase i j h1 with ⟨k, hk, e1, e2⟩ | ⟨e1, e2⟩ <;> rcases hcase i' j h2 with ⟨k', hk', e3, e4⟩ | ⟨e3, e4⟩
    · have : k = k' := by omega
      subst this
      rw [← e1, ← e3]
    · omega
    · omega
    · rw [e1, e3]
  · rw [hold i (fun k hk e => by have := hf k hk; omega)]
    simp [idl, hi]
theorem puts_at : ∀ (M : List (Nat × List AV)) (o : List (List AV)), M.Pairwise (fun p q => p.1 ≠ q.1) → ∀ p ∈ M, p.1 < o.length → (M.foldl (fun o p => o.set p.1 p.2) o)[p.1]? = some p.2
  | [], _, _, p, hp, _ => by cases hp
  | q :: M, o, hd, p, hp, hl => by
    have hd' := List.pairwise_cons.1 hd
    simp only [List.foldl_cons]
    rcases List.mem_cons.1 hp with rfl | hp
    · have key : ∀ (M : List (Nat × List AV)) (o : List (List AV)) (i : Nat) (c : List AV), (∀ q ∈ M, i ≠ q.1) → o[i]? = some c → (M.foldl (fun o p => o.set p.1 p.2) o)[i]? = some c := by
        intro M
        induction M with
        | nil => intro o i c _ h; exact h
        | cons q M ih =>
          intro o i c hn h
          exact ih _ i c (fun r hr => hn r (List.mem_cons_of_mem _ hr)) (by rw [List.getElem?_set_ne (Ne.symm (hn q List.mem_cons_self))]; exact h)
      exact key M _ p.1 p.2 hd'.1 (List.getElem?_set_self hl)
    · exact puts_at M _ hd'.2 p hp (by simpa using hl)
theorem puts_other : ∀ (M : List (Nat × List AV)) (o : List (List AV)) (i : Nat), (∀ q ∈ M, i ≠ q.1) → (M.foldl (fun o p => o.set p.1 p.2) o)[i]? = o[i]?
  | [], _, _, _ => rfl
  | q :: M, o, i, hn => by
    simp only [List.foldl_cons]
    rw [puts_other M _ i (fun r hr => hn r (List.mem_cons_of_mem _ hr)), List.getElem?_set_ne (Ne.symm (hn q List.mem_cons_self))]
inductive WkM : List (Nat × List AV) → List (Nat × List AV) → Prop where
  | nil : WkM [] []
  | cons {i : Nat} {a b : List AV} {l m : List (Nat × List AV)} (hs : spcl a = false) (h : WkL a b) (t : WkM l m) : WkM ((i, a) :: l) ((i, b) :: m)
theorem WkM.fst : ∀ {l m : List (Nat × List AV)}, WkM l m → l.map (·.1) = m.map (·.1)
  | _, _, .nil => rfl
  | _, _, .cons _ _ t => by simp [t.fst]
theorem Inv.wkoM {w0 : World} {G : Ghost} {w : World} {opn : List Bool} {gl : List (Addr × Value)} : ∀ {M M' : List (Nat × List AV)} (_ : WkM M M') {X : List (List AV)}, M.Pairwise (fun p q => p.1 ≠ q.1) → (∀ p ∈ M, X[p.1]? = some p.2) → Inv w0 G w ⟨X, opn, gl⟩ → Inv w0 G w ⟨M'.foldl (fun o p => o.set p.1 p.2) X, opn, gl⟩
  | _, _, .nil, X, _, _, h => h
  | _, _, .cons (i := i) (a := a) (b := b) hs hw t, X, hd, hX, h => by
    have h1 := h.wko (id := i) (c := a) (c' := b) (hX (i, a) List.mem_cons_self) hs hw
    have hd' := List.pairwise_cons.1 hd
    simp only [List.foldl_cons]
    exact Inv.wkoM t hd'.2 (fun p hp => by rw [List.getElem?_set_ne (hd'.1 p hp)]; exact hX p (List.mem_cons_of_mem _ hp)) h1
theorem foldl_set_append (L : List (List AV)) : ∀ (M : List (Nat × List AV)) (o : List (List AV)), (∀ p ∈ M, p.1 < o.length) → M.foldl (fun o p => o.set p.1 p.2) (o ++ L) = M.foldl (fun o p => o.set p.1 p.2) o ++ L
  | [], _, _ => rfl
  | q :: M, o, h => by
    simp only [List.foldl_cons]
    rw [List.set_append_left _ _ (h q List.mem_cons_self)]
    exact foldl_set_append L M _ (fun p hp => by simpa using h p (List.mem_cons_of_mem _ hp))
theorem foldl_set_twice {M M' : List (Nat × List AV)} (he : M.map (·.1) = M'.map (·.1)) (hd : M'.Pairwise fun p q => p.1 ≠ q.1) (o : List (List AV)) (hl : ∀ p ∈ M', p.1 < o.length) : M'.foldl (fun o p => o.set p.1 p.2) (M.foldl (fun o p => o.set p.1 p.2) o) = M'.foldl (fun o p => o.set p.1 p.2) o := by
  apply List.ext_getElem?
  intro i
  by_cases hi : ∃ p ∈ M', p.1 = i
  · obtain ⟨p, hp, rfl⟩ := hi
    rw [puts_at M' _ hd p hp (by rw [puts_len]; exact hl p hp), puts_at M' _ hd p hp (hl p hp)]
  · have hn : ∀ q ∈ M', i ≠ q.1 := fun q hq e => hi ⟨q, hq, e.symm⟩
    rw [puts_other M' _ i hn, puts_other M' _ i hn, puts_other M]
    intro q hq e
    have : q.1 ∈ M'.map (·.1) := by rw [← he]; exact List.mem_map_of_mem hq
    obtain ⟨r, hr, e2⟩ := List.mem_map.1 this
    exact hn r hr (e.trans e2.symm)
section
variable {P : Program} {σ : St}
theorem ACall.outG {g : FuncId} {args : List AV} {b : AV} {X : Type} {B : X → (Nat → Nat) → (Nat → Nat) → List (Nat × List AV)} {L : X → List (List AV)} (cl : List Nat) (m : Nat) (hb : ∀ ρ κ, cutAV ρ κ b = b) (hL : ∀ x, ∀ c ∈ L x, ∀ ρ κ, cutL ρ κ c = c) (hBi : ∀ x f g, ∀ p ∈ B x f g, p.1 < σ.objs.length)
    (hBc : ∀ x ρ κ f f' g g', (∀ i, i < (L x).length → ρ (f i) = some (f' i)) → (∀ i, i < m → κ (g i) = some (g' i)) → (∀ i, i < σ.objs.length → ρ i = some i) → WkM ((B x f g).map fun p => (p.1, cutL ρ κ p.2)) (B x f' g'))
    (h : ACall P g args σ (fun a τ => a = b ∧ ∃ (x : X) (f g : Nat → Nat), (∀ i, i < (L x).length → σ.objs.length ≤ f i) ∧ Holds (σ.shut cl) (zipB f 0 (L x) ++ B x f g) ((List.range m).map g) τ)) :
    ACall P g args σ (fun a τ => a = b ∧ ∃ x : X, τ = σ.grow (B x (fun i => σ.objs.length + i) (fun i => σ.opn.length + i)) (L x) cl m) := by
  have hq : (σ.shut cl).opn.length = σ.opn.length := shut_len cl _
  refine ACall.weaken (K := fun a τ => a = b ∧ ∃ (x : X) (B' : List (Nat × List AV)), WkM B' (B x (fun i => σ.objs.length + i) (fun i => σ.opn.length + i)) ∧ B'.Pairwise (fun p q => p.1 ≠ q.1) ∧ (∀ p ∈ B', p.1 < σ.objs.length) ∧ τ = σ.grow B' (L x) cl m) ?_ (fun a τ ⟨h0, x, B', h1, h2, h3, h4⟩ => ⟨_, fun w0 G w hI => ?_, h0, x, rfl⟩)
  · refine h.ren fun a τ ⟨ha, x, f, g, hf, hH⟩ => ?_
    subst ha
    have hzk : ∀ k, k < (L x).length → ∃ y, (L x)[k]? = some y ∧ (zipB f 0 (L x) ++ B x f g)[k]? = some (f k, y) := fun k hk => by
      have hx : (L x)[k]? = some ((L x)[k]'hk) := List.getElem?_eq_getElem _
      have hz : (zipB f 0 (L x))[k]? = some (f k, (L x)[k]'hk) := by rw [zipB_get, hx, Nat.zero_add]; rfl
      refine ⟨_, hx, ?_⟩
      rw [List.getElem?_append_left (List.getElem?_eq_some_iff.1 hz).1]
      exact hz
    have hfinj : ∀ i j, i < (L x).length → j < (L x).length → f i = f j → i = j := fun i j hi hj e => by
      obtain ⟨y1, _, hx⟩ := hzk i hi
      obtain ⟨y2, _, hy⟩ := hzk j hj
      exact Classical.byContradiction fun hn => dist_get hH.dist hx hy hn e
    have hgk : ∀ k, k < m → ((List.range m).map g)[k]? = some (g k) := fun k hk => by simp [hk]
    have hginj : ∀ i j, i < m → j < m → g i = g j → i = j := fun i j hi hj e => Classical.byContradiction fun hn => tdist_get hH.tdist (hgk i hi) (hgk j hj) hn e
    obtain ⟨ρ, r1, r2, r3, r4⟩ := ren_names σ.objs.length (L x).length f hf hfinj
    obtain ⟨κ, s1, s2, s3, s4⟩ := ren_names σ.opn.length m g (fun k hk => by have := (hH.tok (g k) (List.mem_of_getElem? (hgk k hk))).2; rw [hq] at this; exact this) hginj
    have hmap := hBc x ρ κ f (fun i => σ.objs.length + i) g (fun i => σ.opn.length + i) r2 s2 r3
    have hBd : (B x f g).Pairwise fun p q => p.1 ≠ q.1 := (List.pairwise_append.1 hH.dist).2.1
    refine ⟨σ.grow ((B x f g).map fun p => (p.1, cutL ρ κ p.2)) (L x) cl m, a, ρ, κ, ⟨r1, s1, r3, s3, fun i j h => ?_, fun t u h => ?_, ?_, rfl, fun j d hj => ?_, fun t u h hu => ?_⟩, (by rw [hb]; exact .refl _), rfl, x, _, hmap, ?_, ?_, rfl⟩
    · simp only [St.grow, St.puts, List.length_append, puts_len]
      rcases r4 i j h with ⟨k, hk, e1, e2⟩ | ⟨e1, e2⟩ <;> omega
    · simp only [St.grow, List.length_append, hq, List.length_replicate]
      rcases s4 t u h with ⟨k, hk, e1, e2⟩ | ⟨e1, e2⟩ <;> omega
    · simp only [St.grow, List.length_append, hq]; omega
    · simp only [St.grow, St.puts] at hj
      by_cases hlt : j < σ.objs.length
      · rw [List.getElem?_append_left (by rw [puts_len]; exact hlt)] at hj
        rcases puts_get _ σ.objs j d hj with h1 | ⟨h1, h2⟩
        · obtain ⟨p, hp, e⟩ := List.mem_map.1 h1
          simp only [Prod.mk.injEq] at e
          obtain ⟨rfl, rfl⟩ := e
          exact ⟨p.1, p.2, r3 _ hlt, hH.obj p (List.mem_append_right _ hp), .inr rfl⟩
        · refine ⟨j, d, r3 _ hlt, hH.base j d h1 (fun p hp => ?_), .inl ⟨h1, rfl⟩⟩
          rcases List.mem_append.1 hp with hp | hp
          · obtain ⟨k, hk, e1, e2⟩ := zipB_mem hp
            have := hf k hk
            rw [e1, Nat.zero_add]
            omega
          · exact h2 (p.1, cutL ρ κ p.2) (List.mem_map.2 ⟨p, hp, rfl⟩)
      · rw [List.getElem?_append_right (by rw [puts_len]; omega), puts_len] at hj
        have hk := (List.getElem?_eq_some_iff.1 hj).1
        obtain ⟨y, hx, hzx⟩ := hzk (j - σ.objs.length) hk
        rw [hx] at hj
        obtain rfl := Option.some.inj hj
        exact ⟨f (j - σ.objs.length), y, by rw [r2 _ hk]; congr 1; omega, hH.obj _ (List.mem_of_getElem? hzx), .inr (hL x y (List.mem_of_getElem? hx) _ _).symm⟩
    · rcases s4 t u h with ⟨k, hk, e1, e2⟩ | ⟨e1, e2⟩
      · subst e1
        exact (hH.tok _ (List.mem_of_getElem? (hgk k hk))).1
      · subst e1
        simp only [St.grow] at hu
        rw [List.getElem?_append_left (by rw [hq]; exact e2)] at hu
        exact hH.opn t hu
    · exact List.pairwise_map.2 hBd
    · intro p hp
      obtain ⟨q, hq', rfl⟩ := List.mem_map.1 hp
      exact hBi x f g q hq'
  · subst h4
    have hd2 : (B x (fun i => σ.objs.length + i) (fun i => σ.opn.length + i)).Pairwise fun p q => p.1 ≠ q.1 := by
      have := List.pairwise_map.2 h2
      rw [h1.fst] at this
      exact List.pairwise_map.1 this
    have hI' := Inv.wkoM h1 (X := (σ.puts B').objs ++ L x) h2 (fun p hp => by
      rw [List.getElem?_append_left (by simp only [St.puts, puts_len]; exact h3 p hp)]
      exact puts_at B' _ h2 p hp (h3 p hp)) hI
    have e : (B x (fun i => σ.objs.length + i) (fun i => σ.opn.length + i)).foldl (fun o p => o.set p.1 p.2) ((σ.puts B').objs ++ L x) = (σ.puts (B x (fun i => σ.objs.length + i) (fun i => σ.opn.length + i))).objs ++ L x := by
      rw [foldl_set_append _ _ _ (fun p hp => by simp only [St.puts, puts_len]; exact hBi _ _ _ p hp)]
      simp only [St.puts]
      rw [foldl_set_twice h1.fst hd2 _ (fun p hp => hBi _ _ _ p hp)]
    rw [e] at hI'
    exact hI'
variable {σ0 : St} {O : List (Nat × List AV)} {A : List Nat} {fr : Nat → AV}
end
section
variable {P : Program} {Ty : TypeId → Option TI} {σ σ0 : St} {O : List (Nat × List AV)} {A' : List Nat} {ops : Array Oper} {fr : Nat → AV} {d : Option Tmp} {ty : TypeId} {pos : String} {af : Array Edge} {g : Option (Nat × Bool)} {ox oy oi : Operand} {T T' E U : TypeId} {α : Type} {e : α → AV} {sz id m cap : Nat}
def gC (id sz c n : Nat) : AV := if n = 0 then (if c = 0 then .vec id sz 0 else .vc id sz 0 0 c) else .vec id sz n
def gK (e : α → AV) (c : Nat) (l : List α) : List AV := if l.length = 0 then (if c = 0 then [] else [.junk]) else cL e l
def gR (id sz c n : Nat) : AV := if c = 0 then .vec id sz 0 else .vc id sz 0 n c
inductive GG (id sz c n : Nat) : AV → Prop where
  | c : GG id sz c n (gC id sz c n)
  | r (h : n ≤ c) : GG id sz c n (gR id sz c n)
theorem gK_pos {c : Nat} {l : List α} (h : 0 < l.length) : gK e c l = cL e l := by unfold gK; rw [if_neg (by omega)]
theorem also_loc {G : Ghost} {i id b : Nat} (h0 : id ≠ i) (h : (Ghost.also G id i).loc id = some b) : (G.also id i).loc i = some b := by
  simp only [Ghost.also, if_neg h0] at h
  simp only [Ghost.also, if_true]; exact h
theorem also_bsz {G : Ghost} {i id : Nat} (h0 : id ≠ i) : (Ghost.also G id i).bsz i = (G.also id i).bsz id := by
  simp only [Ghost.also, if_true, if_neg h0]
theorem also_vc {G : Ghost} {i off n c : Nat} {v : Value} (h0 : id ≠ i) (h : Rel (Ghost.also G id i) v (.vc id sz off n c)) : Rel (G.also id i) v (.vc i sz off n c) := by
  cases h with
  | vc _ _ _ _ _ b hc hm hl hs => exact .vc _ _ _ _ _ b hc hm (also_loc h0 hl) (by rw [also_bsz h0]; exact hs)
theorem ACall.revec {gg : FuncId} {args : List AV} {r : List α} {c : Nat} (he : Enc Ty E sz e) (hc0 : 0 < c) (h : ACall P gg args σ (fun a τ => a = .vc id sz 0 r.length c ∧ ∃ cells, cells ≠ [] ∧ spcl cells = false ∧ cells.take (r.length * sz) = cL e r ∧ id < σ.objs.length ∧ τ = ⟨σ.objs.set id cells, σ.opn, σ.gl⟩)) :
    ACall P gg args σ (fun a τ => a = gR σ.objs.length sz c r.length ∧ τ = ⟨σ.objs.set id [] ++ [gK e c r], σ.opn, σ.gl⟩) := by
  refine ⟨h.1, fun w0 G w vs hI hr => (h.2 w0 G w vs hI hr).mono ?_⟩
  rintro e' w' ⟨v, a, σ', G', rfl, h1, h2, h3, rfl, cells, hne, hsp, htk, hid, rfl⟩
  have hcell : (σ.objs.set id cells)[id]? = some cells := by rw [List.getElem?_set]; simp [hid]
  have hlen : r.length * sz ≤ cells.length := by
    have := congrArg List.length htk
    rw [cL_length he.len, List.length_take] at this
    omega
  have hg : gK e c r ≠ [] := by
    unfold gK
    split
    · rw [if_neg (by omega)]; simp
    · intro h0
      have := congrArg List.length h0
      rw [cL_length he.len] at this
      have h5 := Nat.mul_pos (show 0 < r.length by omega) (Nat.pos_of_ne_zero he.pos)
      simp at this
      omega
  have hI2 : Inv w0 G' w' ⟨(σ.objs.set id cells).set id (gK e c r), σ.opn, σ.gl⟩ := h2.reobj hcell hsp hne hg (fun b' T vs' l1 l2 l3 => by
    unfold gK
    split
    · rw [if_neg (by omega)]
      have hc1 : 0 < cells.length := by cases cells with | nil => exact absurd rfl hne | cons x _ => simp
      refine ⟨by have := l3.le; simp; omega, ⟨by have := l3.le; simp; omega, fun i v a e1 e2 => ?_⟩⟩
      cases i with
      | zero => simp at e2; subst e2; exact .junk v
      | succ i => simp at e2
    · have h4 := l3.rel.take (r.length * sz)
      rw [htk, List.take_take, Nat.min_eq_left hlen] at h4
      have hcl : (cL e r).length = r.length * sz := cL_length he.len r
      exact ⟨by rw [hcl]; exact Nat.le_trans hlen l3.le, by rw [hcl]; exact h4⟩)
  have hcl : ((σ.objs.set id cells).set id (gK e c r))[id]? = some (gK e c r) := List.getElem?_set_self (by simpa using hid)
  obtain ⟨k1, k2⟩ := hI2.also hcl
  simp only [List.length_set, List.set_set] at k1 k2
  refine ⟨_, gR σ.objs.length sz c r.length, _, _, rfl, h1.trans k1, k2, ?_, rfl, rfl⟩
  have hn : id ≠ σ.objs.length := by omega
  unfold gR
  rw [if_neg (by omega)]
  exact also_vc hn (h3.mono k1)
theorem OpS.wkr {o : Oper} {a b : AV} {τ : St} (hw : Wk a b) (h : OpS P o fr σ (fun a' τ' => a' = a ∧ τ' = τ)) : OpS P o fr σ (fun a' τ' => a' = b ∧ τ' = τ) := by
  intro w0 G act w Q K' hI hr hK
  refine h w0 G act w Q K' hI hr ?_
  rintro v x σ' w' G' ⟨rfl, rfl⟩ hG hI' hv
  exact hK v b _ w' G' ⟨rfl, rfl⟩ hG hI' (hw G' v hv)
def cpL (v l : List α) : Option (List α) := if l.length ≤ v.length then some (l ++ v.drop l.length) else none
end
end Go.Va
namespace Go.Va
end Go.Va
namespace Go.Va
open Go Go.RowKit
section
variable {P : Program} {Ty : TypeId → Option TI} {σ σ0 : St} {O : List (Nat × List AV)} {A' : List Nat} {fr : Nat → AV} {d : Option Tmp} {ty : TypeId} {pos : String} {af : Array Edge} {g : Option (Nat × Bool)} {ox oy : Operand} {T E : TypeId} {α : Type} {e : α → AV} {sz : Nat}
def cLh (e : α → AV) (l : List α) (i : Nat) (cs : List AV) : List AV := cL e (l.take i) ++ (cs ++ cL e (l.drop (i + 1)))
end
end Go.Va
namespace Go.Va
end Go.Va
namespace Go.Va
end Go.Va
namespace Go.Va
open Go Go.RowKit
set_option linter.unusedVariables false
set_option linter.unusedSimpArgs false
section
variable {P : Program} {Ty : TypeId → Option TI} {n : Nat} {σ : St} {ops : Array Oper} {K : (Nat → AV) → St → Prop} {o : Oper} {rest : List Oper} {l : List (Nat × AV)} {t : Nat}
def gd (ops : Array Oper) (n : Nat) (o : Oper) (fr : Nat → AV) : Option Nat := match guardOf ops o fr with
  | some true => match o.dst with | some t => bif Nat.ble (t + 1) n then some t else none | none => none
  | _ => none
theorem gd_some {fr : Nat → AV} (h : gd ops n o fr = some t) : o.dst = some t ∧ Nat.ble (t + 1) n = true ∧ guardOf ops o fr = some true := by
  unfold gd at h
  split at h
  · rename_i h1
    split at h
    · rename_i u h2
      cases hb : Nat.ble (u + 1) n with
      | true => rw [hb] at h; simp only [cond_true, Option.some.injEq] at h; subst h; exact ⟨h2, hb, h1⟩
      | false => rw [hb] at h; simp at h
    · cases h
  · cases h
theorem m_ (a : AV) (h : gd ops n o (fm l) = some t) (ho : OpP P o (fm l) a) (k : wpo P n ops K rest (fm ((t, a) :: l)) σ) : wpo P n ops K (o :: rest) (fm l) σ := by
  obtain ⟨h1, h2, h3⟩ := gd_some h
  exact wpo_mv h1 h2 h3 ho k
variable {x y c : Operand} {ty : TypeId} {pos : String} {af : Array Edge} {g : Option (Nat × Bool)} {d : Option Tmp}
theorem mm (hT : TyOk P Ty) (a : AV) (h : gd ops n ⟨d, .move x, ty, pos, af, g⟩ (fm l) = some t) (hx : aeval (fm l) x = a) (k : wpo P n ops K rest (fm ((t, a) :: l)) σ) : wpo P n ops K (⟨d, .move x, ty, pos, af, g⟩ :: rest) (fm l) σ := m_ a h (o_mv hT hx (Wk.refl _)) k
theorem ma (hT : TyOk P Ty) (a : AV) (h : gd ops n ⟨d, .assign x, ty, pos, af, g⟩ (fm l) = some t) (hx : aeval (fm l) x = a) (k : wpo P n ops K rest (fm ((t, a) :: l)) σ) : wpo P n ops K (⟨d, .assign x, ty, pos, af, g⟩ :: rest) (fm l) σ := m_ a h (o_as hT hx (Wk.refl _)) k
theorem mc (hT : TyOk P Ty) (a : AV) (h : gd ops n o (fm l) = some t) (hc : callOf o = none) (ho : ∀ τ, aop Ty false o (aeval (fm l)) τ = some (a, τ)) (k : wpo P n ops K rest (fm ((t, a) :: l)) σ) : wpo P n ops K (o :: rest) (fm l) σ := m_ a h (o_c hT false hc ho) k
def gk (ops : Array Oper) (n : Nat) (o : Oper) (fr : Nat → AV) : Option Nat := match guardOf ops o fr with
  | some false => match o.dst with | some t => bif Nat.ble (t + 1) n then some t else none | none => none
  | _ => none
theorem k_ (h : gk ops n o (fm l) = some t) (k : wpo P n ops K rest (fm ((t, .tup []) :: l)) σ) : wpo P n ops K (o :: rest) (fm l) σ := by
  unfold gk at h
  split at h
  · rename_i h1
    split at h
    · rename_i u h2
      cases hb : Nat.ble (u + 1) n with
      | true => rw [hb] at h; simp only [cond_true, Option.some.injEq] at h; subst h; exact wpo_skip h2 hb h1 k
      | false => rw [hb] at h; simp at h
    · cases h
  · cases h
theorem l_ {α β : Type} {z : α} {f : α → Option β} {r : β} (H : lt z f = some r) (enc : α → AV) (h : gd ops n o (fm l) = some t) (ho : OpP P o (fm l) (enc z)) (k : ∀ x, f x = some r → wpo P n ops K rest (fm ((t, enc x) :: l)) σ) : wpo P n ops K (o :: rest) (fm l) σ := by
  obtain ⟨h1, h2, h3⟩ := gd_some h
  exact wpo_lt H enc h1 h2 h3 ho k
theorem b_ {α β : Type} {z : Option α} {f : α → Option β} {r : β} (H : z.bind f = some r) (enc : α → AV) (h : gd ops n o (fm l) = some t) (ho : ∀ x, z = some x → OpP P o (fm l) (enc x)) (k : ∀ x, z = some x → f x = some r → wpo P n ops K rest (fm ((t, enc x) :: l)) σ) : wpo P n ops K (o :: rest) (fm l) σ := by
  obtain ⟨h1, h2, h3⟩ := gd_some h
  exact wpo_bd H enc h1 h2 h3 ho k
theorem pt (hT : TyOk P Ty) (a : AV) (h : gd ops n ⟨d, .pick c x y, ty, pos, af, g⟩ (fm l) = some t) (hc : aeval (fm l) c = .bool true) (hx : aeval (fm l) x = a) (k : wpo P n ops K rest (fm ((t, a) :: l)) σ) : wpo P n ops K (⟨d, .pick c x y, ty, pos, af, g⟩ :: rest) (fm l) σ := m_ a h (o_pick_t hT hc hx (Wk.refl _)) k
theorem pf (hT : TyOk P Ty) (a : AV) (h : gd ops n ⟨d, .pick c x y, ty, pos, af, g⟩ (fm l) = some t) (hc : aeval (fm l) c = .bool false) (hx : aeval (fm l) y = a) (k : wpo P n ops K rest (fm ((t, a) :: l)) σ) : wpo P n ops K (⟨d, .pick c x y, ty, pos, af, g⟩ :: rest) (fm l) σ := m_ a h (o_pick_f hT hc hx (Wk.refl _)) k
theorem sr {id : Nat} {y : Code} {Q : AExit → (Nat → AV) → St → Prop} {fr : Nat → AV} (hd : allDst n ops = true) (h : wpo P n ops (thenQ (AWP P n y Q) Q .normal) ops.toList fr σ) : AWP P n (.seq (.region id ops false) y) Q fr σ := awp_seq (awp_region hd h)
end
theorem ob {α β : Type} {x : Option α} {f : α → Option β} {b : β} (h : x.bind f = some b) : ∃ a, x = some a ∧ f a = some b := Option.bind_eq_some_iff.1 h
theorem nb {a b : Nat} (h : Nat.ble a b = true) : a ≤ b := Nat.le_of_ble_eq_true h
theorem wr {a : AV} : Wk a a := .refl a
theorem wc {f : Nat → AV} {t : Nat} {l : List (Nat × AV)} (k : WkF f (fm l)) : WkF f (fm ((t, f t) :: l)) := wkf_cons (.refl _) k
theorem oi {α : Type} {x y : α} (h : some x = some y) : x = y := Option.some.inj h
section
variable {α β : Type}
def cM (ek : α → AV) (ev : β → AV) (m : List (α × β)) : List AV := [.mpc (m.map fun x => ek x.1) (m.map fun x => ev x.2)]
def mix [DecidableEq α] (m : List (α × β)) (k : α) : Option Nat := (m.map (·.1)).findIdx? fun x => decide (x = k)
def mget [DecidableEq α] (m : List (α × β)) (k : α) : Option β := (mix m k).bind fun i => m[i]?.map (·.2)
def mset [DecidableEq α] (m : List (α × β)) (k : α) (v : β) : List (α × β) := match mix m k with
  | some i => m.set i (k, v)
  | none => m ++ [(k, v)]
def mdel [DecidableEq α] (m : List (α × β)) (k : α) : List (α × β) := match mix m k with
  | some i => m.eraseIdx i
  | none => m
def EKey (P : Program) (K : TypeId) [DecidableEq α] (e : α → AV) : Prop :=
  ∃ val : α → Value, (∀ G v x, Rel G v (e x) → v = val x) ∧ (∀ em x w, (Instr.checkKey em 10000 K (val x)).run P w = .ok () w) ∧ (∀ x w (l : List MapEntry) (ks : List α), l.map (·.key) = ks.map val → (Instr.findKey K (val x) l).run P w = .ok ((ks.findIdx? fun y => decide (y = x)).bind fun i => l[i]?.map fun e => (i, e.val)) w) ∧ ∀ x, Instr.sameBits 10000 (val x) (val x) = true
def sclc : AV → Bool
  | .int _ _ => true
  | .str _ => true
  | .bool _ => true
  | _ => false
def scv : AV → Value
  | .int k n => .int k n
  | .str s => .string s
  | .bool b => .bool b
  | _ => .bool false
def ZeroV (P : Program) (E : TypeId) (a : AV) : Prop := ∃ v, (∀ w, (zeroValue E).run P w = .ok v w) ∧ ∀ G, Rel G v a
theorem ZeroV.mk {P : Program} {E : TypeId} {a b : AV} (z : Value) (h : (P.info? E).map (fun ti => ti.zero) = some (some z)) (hr : ∀ G, Rel G z a) (hw : Wk a b) : ZeroV P E b := by
  refine ⟨z, fun w => ?_, fun G => hw G z (hr G)⟩
  cases hi : P.info? E with
  | none => rw [hi] at h; cases h
  | some ti =>
    rw [hi] at h
    simp only [Option.map_some, Option.some.injEq] at h
    simp [zeroValue, typeInfo, hi, h]
end
section
variable {α β : Type} {P : Program} {Ty : TypeId → Option TI} {σ σ0 : St} {O : List (Nat × List AV)} {A : List Nat} {fr : Nat → AV} {d : Option Tmp} {ty : TypeId} {pos : String} {af : Array Edge} {g : Option (Nat × Bool)} {om ox oy : Operand} {T K E U : TypeId} {ek : α → AV} {ev : β → AV}
end
def Ghost.twin (G : Ghost) (t n : Nat) : Ghost := { fz := G.fz, loc := G.loc, tok := fun u => if u = n then G.tok t else G.tok u, nt := n + 1, lit := G.lit, bsz := G.bsz }
theorem Inv.twin {w0 : World} {G : Ghost} {w : World} {σ : St} (h : Inv w0 G w σ) {t : Nat} (ht : σ.opn[t]? = some true) : G.Le (G.twin t σ.opn.length) ∧ Inv w0 (G.twin t σ.opn.length) w ⟨σ.objs, σ.opn.set t false ++ [true], σ.gl⟩ := by
  have htl := (List.getElem?_eq_some_iff.1 ht).1
  have hnone : G.tok σ.opn.length = none := by
    cases hx : G.tok σ.opn.length with
    | none => rfl
    | some x => have := h.tokdom _ _ hx; omega
  have hle : G.Le (G.twin t σ.opn.length) := ⟨fun _ _ _ h => h, fun _ _ h => h, fun u x hu => by
    have : u ≠ σ.opn.length := fun e => by subst e; rw [hnone] at hu; cases hu
    simp only [Ghost.twin, if_neg this]; exact hu, by have := h.nt; simp only [Ghost.twin]; omega, fun _ h => h, fun _ _ _ => rfl⟩
  have hat : ∀ u, (σ.opn.set t false ++ [true])[u]? = some true → (u = σ.opn.length) ∨ (u ≠ σ.opn.length ∧ u ≠ t ∧ σ.opn[u]? = some true) := fun u hu => by
    by_cases hl : u < σ.opn.length
    · rw [List.getElem?_append_left (by simpa using hl)] at hu
      by_cases he : t = u
      · subst he; rw [List.getElem?_set_self htl] at hu; cases hu
      · rw [List.getElem?_set_ne he] at hu; exact .inr ⟨by omega, Ne.symm he, hu⟩
    · have := (List.getElem?_eq_some_iff.1 hu).1
      simp at this
      exact .inl (by omega)
  have htok : ∀ u x, (G.twin t σ.opn.length).tok u = some x → (u = σ.opn.length ∧ G.tok t = some x) ∨ (u ≠ σ.opn.length ∧ G.tok u = some x) := fun u x hu => by
    simp only [Ghost.twin] at hu
    split at hu
    · exact .inl ⟨‹_›, hu⟩
    · exact .inr ⟨‹_›, hu⟩
  have key : ∀ u x, (σ.opn.set t false ++ [true])[u]? = some true → (G.twin t σ.opn.length).tok u = some x → ∃ u', σ.opn[u']? = some true ∧ G.tok u' = some x ∧ ((u = σ.opn.length ∧ u' = t) ∨ (u ≠ σ.opn.length ∧ u' = u ∧ u ≠ t)) := fun u x h1 h2 => by
    rcases hat u h1 with rfl | ⟨k1, k2, k3⟩
    · rcases htok _ x h2 with ⟨_, k⟩ | ⟨k0, _⟩
      · exact ⟨t, ht, k, .inl ⟨rfl, rfl⟩⟩
      · exact absurd rfl k0
    · rcases htok _ x h2 with ⟨k0, _⟩ | ⟨_, k⟩
      · exact absurd k0 k1
      · exact ⟨u, k3, k, .inr ⟨k1, rfl, k2⟩⟩
  refine ⟨hle, ⟨h.below, h.fz, fun i d hd hn hs => ?_, h.locfz, h.loclt, h.locdom, h.locinj, fun u b top en hu hx => ?_, fun u x hx => ?_, fun u u' x x' hu hu' hx hx' e => ?_, by simp [Ghost.twin], fun b hb => ?_, h.gl, fun i a hi hs => ?_⟩⟩
  · obtain ⟨b, T, vs, e1, e2, e3, e4, e5, e6⟩ := h.loc i d hd hn hs
    exact ⟨b, T, vs, e1, e2, e3, e4.mono hle, e5, e6⟩
  · obtain ⟨u', k1, k2, _⟩ := key u _ hu hx
    exact h.tok u' b top en k1 k2
  · rcases htok u x hx with ⟨rfl, _⟩ | ⟨_, k⟩
    · simp
    · have := h.tokdom u x k; simp; omega
  · obtain ⟨v, k1, k2, k3⟩ := key u x hu hx
    obtain ⟨v', l1, l2, l3⟩ := key u' x' hu' hx'
    have hv := h.tokinj v v' x x' k1 l1 k2 l2 e
    subst hv
    rcases k3 with ⟨p1, p2⟩ | ⟨p1, p2, p3⟩ <;> rcases l3 with ⟨q1, q2⟩ | ⟨q1, q2, q3⟩
    · omega
    · exact absurd (q2.symm.trans p2) q3
    · exact absurd (p2.symm.trans q2) p3
    · omega
  · obtain ⟨e1, e2, e3, e4⟩ := h.lit b hb
    exact ⟨e1, e2, e3, fun u x hu hx => by obtain ⟨u', k1, k2, _⟩ := key u x hu hx; exact e4 u' x k1 k2⟩
  · obtain ⟨b, o, e1, e2, e3, e4⟩ := h.sp i a hi hs
    exact ⟨b, o, e1, e2, e3, e4.mono hle⟩
theorem twin_sl {G : Ghost} {t n sz : Nat} {es : List AV} {v : Value} (hn : t ≠ n) (h : Rel (G.twin t n) v (.sl (.own t) sz es)) : Rel (G.twin t n) v (.sl (.own n) sz es) := by
  have ht : (G.twin t n).tok n = (G.twin t n).tok t := by simp only [Ghost.twin, if_true, if_neg hn]
  cases h with
  | sl b o c _ _ _ val hc hm hz hf hr hk => exact .sl b o c _ _ _ val hc hm hz hf hr ⟨Nat.lt_succ_self _, hk.2.imp id fun e => by rw [ht]; exact e⟩
  | sl0 A c _ _ hm hk => exact .sl0 A c _ _ hm (hk.elim (fun h => by cases h) fun h => .inr ⟨h.1, Nat.lt_succ_self _⟩)
section
variable {P : Program} {n : Nat} {σ σ0 : St} {O : List (Nat × List AV)} {A : List Nat}
theorem AWP.reT {cd : Code} {Q : AExit → (Nat → AV) → St → Prop} {l : List (Nat × AV)} (hH : Holds σ0 O A σ) (k j : Nat) {idm t sz : Nat} {c es : List AV} (hk : O[k]? = some (idm, c)) (hj : c[j]? = some (.sl (.own t) sz es)) (ht : σ0.opn[t]? = some true)
    (h : ∀ t' τ, Holds (σ0.shut [t]) (O.set k (idm, c.set j (.sl (.own t') sz es))) (t' :: A) τ → AWP P n cd Q (Va.fm l) τ) (hsp : spcl c = false := by rfl) : AWP P n cd Q (Va.fm l) σ := fun w0 G a w hS => by
  have hto := hH.opn t ht
  have htl := (List.getElem?_eq_some_iff.1 hto).1
  have ht0 := (List.getElem?_eq_some_iff.1 ht).1
  obtain ⟨hle, hI⟩ := hS.inv.twin hto
  have hcn : c ≠ [] := fun h0 => by subst h0; simp at hj
  have hI2 := hI.reobj (id := idm) (c' := c.set j (.sl (.own σ.opn.length) sz es)) (hH.at_ k hk) hsp hcn (fun h0 => hcn (by have := congrArg List.length h0; simp at this; exact this)) (fun b T vs l1 l2 l3 => by
    obtain ⟨v, hv, hrv⟩ := l3.rel.get hj
    exact ⟨by rw [List.length_set]; exact l3.le, by rw [List.length_set]; exact l3.rel.set_at hv (twin_sl (by omega) hrv)⟩)
  have hp := hH.put k hk (c.set j (.sl (.own σ.opn.length) sz es))
  have hopn : ∀ u, σ.opn[u]? = some true → u ≠ t → (σ.opn.set t false ++ [true])[u]? = some true := fun u hu hut => by
    rw [List.getElem?_append_left (by simpa using (List.getElem?_eq_some_iff.1 hu).1), List.getElem?_set_ne (Ne.symm hut)]; exact hu
  have hH2 : Holds (σ0.shut [t]) (O.set k (idm, c.set j (.sl (.own σ.opn.length) sz es))) (σ.opn.length :: A) ⟨σ.objs.set idm (c.set j (.sl (.own σ.opn.length) sz es)), σ.opn.set t false ++ [true], σ.gl⟩ := by
    refine ⟨hp.base, fun u hu => ?_, hp.olen, ?_, hp.obj, hp.dist, fun u hu => ?_, ?_, hp.gl⟩
    · obtain ⟨h1, h2⟩ := shut_get [t] _ u hu
      exact hopn u (hH.opn u h1) (by simpa using h2)
    · have := hH.tlen; simp [St.shut]; omega
    · have hsl : (σ0.shut [t]).opn.length = σ0.opn.length := shut_len _ _
      rcases List.mem_cons.1 hu with rfl | hu
      · exact ⟨by simp, by rw [hsl]; exact hH.tlen⟩
      · have h1 := hH.tok u hu
        exact ⟨hopn u h1.1 (by omega), by rw [hsl]; exact h1.2⟩
    · refine List.pairwise_cons.2 ⟨fun u hu => ?_, hH.tdist⟩
      have := (List.getElem?_eq_some_iff.1 (hH.tok u hu).1).1
      omega
  refine wp_mono (h _ _ hH2 w0 _ a w ⟨hI2, hS.frm.mono hle, hS.size, hS.defers⟩) ?_
  rintro ex a' w' ⟨ae, fr', σ', G2, k1, k2, k3, k4⟩
  exact ⟨ae, fr', σ', G2, k1, hle.trans k2, k3, k4⟩
theorem ACall.outT {g : FuncId} {args : List AV} {b : AV} {B : (Nat → Nat) → List (Nat × List AV)} (cl : List Nat) (m : Nat) (hb : ∀ ρ κ, cutAV ρ κ b = b) (hBi : ∀ g, ∀ p ∈ B g, p.1 < σ.objs.length)
    (hBc : ∀ ρ κ g g', (∀ i, i < m → κ (g i) = some (g' i)) → (∀ i, i < σ.objs.length → ρ i = some i) → WkM ((B g).map fun p => (p.1, cutL ρ κ p.2)) (B g'))
    (h : ACall P g args σ (fun a τ => a = b ∧ ∃ g : Nat → Nat, Holds (σ.shut cl) (B g) ((List.range m).map g) τ)) :
    ACall P g args σ (fun a τ => a = b ∧ τ = σ.grow (B (fun i => σ.opn.length + i)) [] cl m) :=
  (ACall.outG (X := Unit) (B := fun _ _ g => B g) (L := fun _ => []) cl m hb (fun _ c h => by cases h) (fun _ _ g => hBi g) (fun _ ρ κ _ _ g g' _ h2 h3 => hBc ρ κ g g' h2 h3) (h.mono fun a τ ⟨h1, g, h2⟩ => ⟨h1, (), fun i => i, g, fun i hi => by simp at hi, h2⟩)).mono fun a τ ⟨h1, _, h2⟩ => ⟨h1, h2⟩
theorem perm_at {α : Type} {l : List α} (k : Nat) {a : α} (h : l[k]? = some a) : l.Perm (a :: l.eraseIdx k) := by
  obtain ⟨hk, rfl⟩ := List.getElem?_eq_some_iff.1 h
  rw [List.eraseIdx_eq_take_drop_succ]
  have h1 : l = l.take k ++ l[k] :: l.drop (k + 1) := by rw [← List.drop_eq_getElem_cons hk, List.take_append_drop]
  exact (List.Perm.of_eq h1).trans List.perm_middle
theorem Holds.retoks (h : Holds σ0 O A σ) {cl A2 : List Nat} (hp : A.Perm (cl ++ A2)) (m : Nat) : Holds σ0 O ((List.range m).map (fun i => σ.opn.length + i) ++ A2) ⟨σ.objs, (σ.shut cl).opn ++ List.replicate m true, σ.gl⟩ := by
  have hq : (σ.shut cl).opn.length = σ.opn.length := shut_len cl _
  have hin : ∀ u ∈ cl, u ∈ A := fun u hu => hp.symm.subset (List.mem_append_left _ hu)
  have hd := (hp.pairwise_iff (R := fun a b : Nat => a ≠ b) (fun h => h.symm)).1 h.tdist
  have hd' := List.pairwise_append.1 hd
  have hopn : ∀ u, σ.opn[u]? = some true → u ∉ cl → ((σ.shut cl).opn ++ List.replicate m true)[u]? = some true := fun u hu hn => by
    rw [List.getElem?_append_left (by rw [hq]; exact (List.getElem?_eq_some_iff.1 hu).1)]
    exact shut_in cl _ u hu hn
  refine ⟨h.base, fun u hu => hopn u (h.opn u hu) (fun hc => ?_), h.olen, ?_, h.obj, h.dist, fun u hu => ?_, ?_, h.gl⟩
  · have h1 := (h.tok u (hin u hc)).2
    have h2 := (List.getElem?_eq_some_iff.1 hu).1
    omega
  · have := h.tlen; simp only [List.length_append, hq]; omega
  · rcases List.mem_append.1 hu with hu | hu
    · obtain ⟨i, hi, rfl⟩ := List.mem_map.1 hu
      have hi := List.mem_range.1 hi
      refine ⟨?_, by have := h.tlen; omega⟩
      simp only
      rw [List.getElem?_append_right (by rw [hq]; omega), hq, Nat.add_sub_cancel_left]
      simp [hi]
    · have h1 := h.tok u (hp.symm.subset (List.mem_append_right _ hu))
      exact ⟨hopn u h1.1 (fun hc => hd'.2.2 u hc u hu rfl), h1.2⟩
  · refine List.pairwise_append.2 ⟨List.pairwise_map.2 (List.Pairwise.imp (fun h => by omega) List.nodup_range), hd'.2.1, fun a ha b hb => ?_⟩
    obtain ⟨i, hi, rfl⟩ := List.mem_map.1 ha
    have := (List.getElem?_eq_some_iff.1 (h.tok b (hp.symm.subset (List.mem_append_right _ hb))).1).1
    omega
theorem Holds.tpick (h : Holds σ0 O A σ) (ks : List Nat) {A' : List Nat} (hk : ks.map (fun k => A[k]?) = A'.map some) (hd : ks.Nodup) : Holds σ0 O A' σ := by
  have key : ∀ (i : Nat) (a : Nat), A'[i]? = some a → ∃ k, ks[i]? = some k ∧ A[k]? = some a := fun i a hi => by
    have h1 : (A'.map some)[i]? = some (some a) := by simp [hi]
    rw [← hk, List.getElem?_map, Option.map_eq_some_iff] at h1
    exact h1
  refine ⟨h.base, h.opn, h.olen, h.tlen, h.obj, h.dist, fun u hu => ?_, ?_, h.gl⟩
  · obtain ⟨i, hi⟩ := List.mem_iff_getElem?.1 hu
    obtain ⟨k, _, h2⟩ := key i u hi
    exact h.tok u (List.mem_of_getElem? h2)
  · rw [List.pairwise_iff_getElem]
    intro i j hi hj hij e
    obtain ⟨k, k1, k2⟩ := key i _ (List.getElem?_eq_getElem hi)
    obtain ⟨k', l1, l2⟩ := key j _ (List.getElem?_eq_getElem hj)
    have hne : k ≠ k' := fun he => by
      subst he
      obtain ⟨p1, p2⟩ := List.getElem?_eq_some_iff.1 k1
      obtain ⟨q1, q2⟩ := List.getElem?_eq_some_iff.1 l1
      exact List.pairwise_iff_getElem.1 hd i j p1 q1 hij (p2.trans q2.symm)
    exact tdist_get h.tdist k2 l2 hne e
theorem Holds.tnin (h : Holds σ0 O A σ) (i j : Nat) {a b : Nat} (hi : A[i]? = some a) (hj : A[j]? = some b) (hne : i ≠ j) : b ∉ [a] := by
  intro hm
  rw [List.mem_singleton] at hm
  exact tdist_get h.tdist hi hj hne hm.symm
theorem cut_eT {α : Type} {e : α → AV} {ρ κ : Nat → Option Nat} {t t' sz : Nat} (hc : ∀ ρ κ x, cutAV ρ κ (e x) = e x) (h : κ t = some t') (l : List α) : cutAV ρ κ (eT t sz e l) = eT t' sz e l := by
  simp only [eT, cutAV, cutTok, h, cutL_enc hc ρ κ l]
variable {fr : Nat → AV}
theorem h_callT (hH : Holds σ0 O A σ) {o : Oper} {f : Operand} {xs : List Operand} {gg : FuncId} {first cap args : List AV} {b : AV} {cl : List Nat} (A2 : List Nat) (m : Nat) (hp : A.Perm (cl ++ A2)) (M : (Nat → Nat) → List (Nat × (Nat × List AV))) (hM : ∀ g, hasL O (M g)) (hc : callOf o = some (f, xs)) (hf : aeval fr f = .fn (.func gg) first cap) (hargs : WkL (first ++ xs.map (aeval fr) ++ cap) args)
    (hcall : ACall P gg args σ (fun a τ => a = b ∧ τ = σ.grow ((M fun i => σ.opn.length + i).map (·.2)) [] cl m)) : ∃ (t0 : Nat) (τ : St), OpS P o fr σ (fun a' τ' => a' = b ∧ τ' = τ) ∧ Holds σ0 (putL O (M fun i => t0 + i)) ((List.range m).map (fun i => t0 + i) ++ A2) τ := by
  refine ⟨σ.opn.length, _, OpS.of_call hc hf hargs hcall, ?_⟩
  have h1 := (hH.puts (hM fun i => σ.opn.length + i)).retoks hp m
  have e : σ.grow ((M fun i => σ.opn.length + i).map (·.2)) [] cl m = ⟨(σ.puts ((M fun i => σ.opn.length + i).map (·.2))).objs, ((σ.puts ((M fun i => σ.opn.length + i).map (·.2))).shut cl).opn ++ List.replicate m true, σ.gl⟩ := by simp [St.grow, St.shut, St.puts]
  rw [e]
  exact h1
end
section
variable {P : Program} {Ty : TypeId → Option TI} {fr : Nat → AV} {d : Option Tmp} {ty : TypeId} {pos : String} {af : Array Edge} {g : Option (Nat × Bool)} {ox oy : Operand} {T E : TypeId} {α : Type} {e : α → AV} {sz : Nat}
theorem o_cutFromT (hT : TyOk P Ty) {l z : List α} {kl : IntKind} {lo : Int} {ol : Operand} {t : Nat} (h : cutFrom l lo = some z) (hd : tdOf Ty T = .slice E) (he : Enc Ty E sz e) (hx : aeval fr ox = .sl (.own t) sz (l.map e)) (hl : aeval fr ol = .int kl lo) : OpP P ⟨d, .slice T ox (some ol) none none, ty, pos, af, g⟩ fr (eT t sz e z) := by
  unfold cutFrom at h
  split at h <;> cases h
  rename_i hc
  refine OpP.of_aop hT (mu := false) rfl (fun τ => ?_) (.of_eq (show AV.sl (if (l.map e).length = (l.map e).length then .own t else .no) sz (((l.drop lo.toNat).map e)) = _ by rw [if_pos rfl]; rfl))
  simp only [aop, hx, Option.map_some, Option.map_none, hl, aslice, hd, abnd_i _ hc.1]
  simp only [abnd]
  rw [if_pos ⟨by rw [List.length_map]; omega, Nat.le_refl _, he.ty.symm, he.pos⟩]
  rw [List.take_length, List.map_drop]; rfl
end
section
variable {P : Program} {σ0 : St} {O : List (Nat × List AV)} {A : List Nat} {ops : Array Oper} {S : List Nat} {K : (Nat → AV) → St → Prop} {i : Nat} {o : Oper} {rest : List Oper} {ps : List Ph} {acc : List (Nat × List AV)} {l : List (Nat × AV)} {t : Nat}
end
end Go.Va
namespace Go.Proofs.YtmgjdbbggajljaaDoor
open Go Go.Va
set_option linter.unusedSimpArgs false
def ty : TypeId → Option TI
  | 1 => some ⟨.func, 1, 8, .nilf⟩
  | 2 => some ⟨.int .i64, 1, 8, .int .i64 0⟩
  | 3 => some ⟨.int .i64, 1, 8, .int .i64 0⟩
  | 4 => some ⟨.bool, 1, 1, .bool false⟩
  | 5 => some ⟨.int .u8, 1, 1, .int .u8 0⟩
  | 6 => some ⟨.int .u8, 1, 1, .int .u8 0⟩
  | 7 => some ⟨.struct [(0, 2), (1, 3), (2, 4), (3, 6)], 4, 24, .agg [.int .i64 0, .int .i64 0, .bool false, .int .u8 0]⟩
  | 8 => some ⟨.struct [(0, 2), (1, 3), (2, 4), (3, 6)], 4, 24, .agg [.int .i64 0, .int .i64 0, .bool false, .int .u8 0]⟩
  | 9 => some ⟨.str, 1, 16, .str ⟨#[]⟩⟩
  | 10 => some ⟨.str, 1, 16, .str ⟨#[]⟩⟩
  | 11 => some ⟨.str, 1, 16, .str ⟨#[]⟩⟩
  | 12 => some ⟨.int .u64, 1, 8, .int .u64 0⟩
  | 13 => some ⟨.struct [(0, 9), (1, 12)], 2, 24, .agg [.str ⟨#[]⟩, .int .u64 0]⟩
  | 14 => some ⟨.struct [(0, 9), (1, 12)], 2, 24, .agg [.str ⟨#[]⟩, .int .u64 0]⟩
  | 15 => some ⟨.ptr 125, 1, 8, .nilp⟩
  | 16 => some ⟨.ptr 128, 1, 8, .nilp⟩
  | 17 => some ⟨.ptr 138, 1, 8, .nilp⟩
  | 18 => some ⟨.struct [(0, 17)], 1, 8, .agg [.nilp]⟩
  | 19 => some ⟨.struct [(0, 17)], 1, 8, .agg [.nilp]⟩
  | 20 => some ⟨.iface, 1, 16, .nili⟩
  | 21 => some ⟨.int .i32, 1, 4, .int .i32 0⟩
  | 22 => some ⟨.slice 44, 1, 24, .nils⟩
  | 23 => some ⟨.func, 1, 8, .nilf⟩
  | 24 => some ⟨.func, 1, 8, .nilf⟩
  | 25 => some ⟨.ptr 67, 1, 8, .nilp⟩
  | 26 => some ⟨.iface, 1, 16, .nili⟩
  | 27 => some ⟨.iface, 1, 16, .nili⟩
  | 29 => some ⟨.func, 1, 8, .nilf⟩
  | 30 => some ⟨.slice 42, 1, 24, .nils⟩
  | 31 => some ⟨.slice 9, 1, 24, .nils⟩
  | 32 => some ⟨.struct [(0, 3), (1, 30), (2, 31)], 3, 56, .agg [.int .i64 0, .nils, .nils]⟩
  | 33 => some ⟨.struct [(0, 3), (1, 30), (2, 31)], 3, 56, .agg [.int .i64 0, .nils, .nils]⟩
  | 34 => some ⟨.int .i64, 1, 8, .int .i64 0⟩
  | 36 => some ⟨.func, 1, 8, .nilf⟩
  | 37 => some ⟨.func, 1, 8, .nilf⟩
  | 39 => some ⟨.func, 1, 8, .nilf⟩
  | 40 => some ⟨.slice 5, 1, 24, .nils⟩
  | 41 => some ⟨.struct [(0, 9), (1, 3), (2, 3), (3, 3), (4, 40)], 5, 64, .agg [.str ⟨#[]⟩, .int .i64 0, .int .i64 0, .int .i64 0, .nils]⟩
  | 42 => some ⟨.struct [(0, 9), (1, 3), (2, 3), (3, 3), (4, 40)], 5, 64, .agg [.str ⟨#[]⟩, .int .i64 0, .int .i64 0, .int .i64 0, .nils]⟩
  | 43 => some ⟨.struct [(0, 3), (1, 42)], 6, 72, .agg [.int .i64 0, .str ⟨#[]⟩, .int .i64 0, .int .i64 0, .int .i64 0, .nils]⟩
  | 44 => some ⟨.struct [(0, 3), (1, 42)], 6, 72, .agg [.int .i64 0, .str ⟨#[]⟩, .int .i64 0, .int .i64 0, .int .i64 0, .nils]⟩
  | 45 => some ⟨.func, 1, 8, .nilf⟩
  | 46 => some ⟨.func, 1, 8, .nilf⟩
  | 47 => some ⟨.func, 1, 8, .nilf⟩
  | 48 => some ⟨.func, 1, 8, .nilf⟩
  | 49 => some ⟨.func, 1, 8, .nilf⟩
  | 50 => some ⟨.func, 1, 8, .nilf⟩
  | 51 => some ⟨.func, 1, 8, .nilf⟩
  | 52 => some ⟨.func, 1, 8, .nilf⟩
  | 53 => some ⟨.func, 1, 8, .nilf⟩
  | 55 => some ⟨.func, 1, 8, .nilf⟩
  | 56 => some ⟨.func, 1, 8, .nilf⟩
  | 57 => some ⟨.func, 1, 8, .nilf⟩
  | 58 => some ⟨.func, 1, 8, .nilf⟩
  | 59 => some ⟨.func, 1, 8, .nilf⟩
  | 60 => some ⟨.func, 1, 8, .nilf⟩
  | 61 => some ⟨.struct [(0, 3), (1, 60), (2, 30)], 3, 40, .agg [.int .i64 0, .nilf, .nils]⟩
  | 62 => some ⟨.struct [(0, 3), (1, 60), (2, 30)], 3, 40, .agg [.int .i64 0, .nilf, .nils]⟩
  | 63 => some ⟨.func, 1, 8, .nilf⟩
  | 64 => some ⟨.struct [(0, 3), (1, 63), (2, 31)], 3, 40, .agg [.int .i64 0, .nilf, .nils]⟩
  | 65 => some ⟨.struct [(0, 3), (1, 63), (2, 31)], 3, 40, .agg [.int .i64 0, .nilf, .nils]⟩
  | 66 => some ⟨.struct [(0, 62), (3, 65)], 6, 80, .agg [.int .i64 0, .nilf, .nils, .int .i64 0, .nilf, .nils]⟩
  | 67 => some ⟨.struct [(0, 62), (3, 65)], 6, 80, .agg [.int .i64 0, .nilf, .nils, .int .i64 0, .nilf, .nils]⟩
  | 68 => some ⟨.ptr 72, 1, 8, .nilp⟩
  | 69 => some ⟨.func, 1, 8, .nilf⟩
  | 70 => some ⟨.ptr 68, 1, 8, .nilp⟩
  | 71 => some ⟨.struct [(0, 9), (1, 3), (2, 34), (3, 27)], 4, 48, .agg [.str ⟨#[]⟩, .int .i64 0, .int .i64 0, .nili]⟩
  | 72 => some ⟨.struct [(0, 9), (1, 3), (2, 34), (3, 27)], 4, 48, .agg [.str ⟨#[]⟩, .int .i64 0, .int .i64 0, .nili]⟩
  | 73 => some ⟨.func, 1, 8, .nilf⟩
  | 75 => some ⟨.func, 1, 8, .nilf⟩
  | 76 => some ⟨.func, 1, 8, .nilf⟩
  | 77 => some ⟨.func, 1, 8, .nilf⟩
  | 78 => some ⟨.func, 1, 8, .nilf⟩
  | 80 => some ⟨.func, 1, 8, .nilf⟩
  | 82 => some ⟨.func, 1, 8, .nilf⟩
  | 83 => some ⟨.func, 1, 8, .nilf⟩
  | 84 => some ⟨.func, 1, 8, .nilf⟩
  | 85 => some ⟨.func, 1, 8, .nilf⟩
  | 86 => some ⟨.func, 1, 8, .nilf⟩
  | 88 => some ⟨.int .u64, 1, 8, .int .u64 0⟩
  | 91 => some ⟨.func, 1, 8, .nilf⟩
  | 92 => some ⟨.iface, 1, 16, .nili⟩
  | 93 => some ⟨.iface, 1, 16, .nili⟩
  | 94 => some ⟨.func, 1, 8, .nilf⟩
  | 95 => some ⟨.int .u8, 1, 1, .int .u8 0⟩
  | 96 => some ⟨.func, 1, 8, .nilf⟩
  | 97 => some ⟨.func, 1, 8, .nilf⟩
  | 98 => some ⟨.func, 1, 8, .nilf⟩
  | 99 => some ⟨.func, 1, 8, .nilf⟩
  | 100 => some ⟨.func, 1, 8, .nilf⟩
  | 101 => some ⟨.ptr 62, 1, 8, .nilp⟩
  | 102 => some ⟨.ptr 42, 1, 8, .nilp⟩
  | 103 => some ⟨.func, 1, 8, .nilf⟩
  | 104 => some ⟨.func, 1, 8, .nilf⟩
  | 105 => some ⟨.func, 1, 8, .nilf⟩
  | 106 => some ⟨.ptr 65, 1, 8, .nilp⟩
  | 107 => some ⟨.func, 1, 8, .nilf⟩
  | 108 => some ⟨.struct [(0, 17)], 1, 8, .agg [.nilp]⟩
  | 109 => some ⟨.struct [(0, 17)], 1, 8, .agg [.nilp]⟩
  | 110 => some ⟨.ptr 143, 1, 8, .nilp⟩
  | 111 => some ⟨.func, 1, 8, .nilf⟩
  | 112 => some ⟨.func, 1, 8, .nilf⟩
  | 113 => some ⟨.func, 1, 8, .nilf⟩
  | 114 => some ⟨.iface, 1, 16, .nili⟩
  | 116 => some ⟨.func, 1, 8, .nilf⟩
  | 117 => some ⟨.iface, 1, 16, .nili⟩
  | 118 => some ⟨.func, 1, 8, .nilf⟩
  | 119 => some ⟨.iface, 1, 16, .nili⟩
  | 120 => some ⟨.slice 27, 1, 24, .nils⟩
  | 121 => some ⟨.func, 1, 8, .nilf⟩
  | 122 => some ⟨.ptr 9, 1, 8, .nilp⟩
  | 123 => some ⟨.func, 1, 8, .nilf⟩
  | 124 => some ⟨.struct [(0, 17), (1, 17), (2, 17), (3, 9)], 4, 40, .agg [.nilp, .nilp, .nilp, .str ⟨#[]⟩]⟩
  | 125 => some ⟨.struct [(0, 17), (1, 17), (2, 17), (3, 9)], 4, 40, .agg [.nilp, .nilp, .nilp, .str ⟨#[]⟩]⟩
  | 129 => some ⟨.func, 1, 8, .nilf⟩
  | 130 => some ⟨.func, 1, 8, .nilf⟩
  | 131 => some ⟨.int .u32, 1, 4, .int .u32 0⟩
  | 132 => some ⟨.int .u8, 1, 1, .int .u8 0⟩
  | 133 => some ⟨.func, 1, 8, .nilf⟩
  | 134 => some ⟨.ptr 5, 1, 8, .nilp⟩
  | 135 => some ⟨.int .i32, 1, 4, .int .i32 0⟩
  | 136 => some ⟨.int .i32, 1, 4, .int .i32 0⟩
  | 137 => some ⟨.struct [(0, 12), (1, 12), (2, 131), (3, 132), (4, 5), (5, 5), (6, 95), (7, 133), (8, 134), (9, 135), (10, 136)], 11, 48, .agg [.int .u64 0, .int .u64 0, .int .u32 0, .int .u8 0, .int .u8 0, .int .u8 0, .int .u8 0, .nilf, .nilp, .int .i32 0, .int .i32 0]⟩
  | 138 => some ⟨.struct [(0, 12), (1, 12), (2, 131), (3, 132), (4, 5), (5, 5), (6, 95), (7, 133), (8, 134), (9, 135), (10, 136)], 11, 48, .agg [.int .u64 0, .int .u64 0, .int .u32 0, .int .u8 0, .int .u8 0, .int .u8 0, .int .u8 0, .nilf, .nilp, .int .i32 0, .int .i32 0]⟩
  | 139 => some ⟨.func, 1, 8, .nilf⟩
  | 140 => some ⟨.func, 1, 8, .nilf⟩
  | 141 => some ⟨.func, 1, 8, .nilf⟩
  | 142 => some ⟨.struct [(0, 9), (1, 95)], 2, 24, .agg [.str ⟨#[]⟩, .int .u8 0]⟩
  | 143 => some ⟨.struct [(0, 9), (1, 95)], 2, 24, .agg [.str ⟨#[]⟩, .int .u8 0]⟩
  | 144 => some ⟨.ptr 148, 1, 8, .nilp⟩
  | 145 => some ⟨.func, 1, 8, .nilf⟩
  | 146 => some ⟨.int .u16, 1, 2, .int .u16 0⟩
  | 147 => some ⟨.struct [(0, 135), (1, 146), (2, 146), (3, 131), (4, 131)], 5, 16, .agg [.int .i32 0, .int .u16 0, .int .u16 0, .int .u32 0, .int .u32 0]⟩
  | 148 => some ⟨.struct [(0, 135), (1, 146), (2, 146), (3, 131), (4, 131)], 5, 16, .agg [.int .i32 0, .int .u16 0, .int .u16 0, .int .u32 0, .int .u32 0]⟩
  | 149 => some ⟨.slice 152, 1, 24, .nils⟩
  | 150 => some ⟨.int .i32, 1, 4, .int .i32 0⟩
  | 151 => some ⟨.struct [(0, 135), (1, 136), (2, 150), (3, 150)], 4, 16, .agg [.int .i32 0, .int .i32 0, .int .i32 0, .int .i32 0]⟩
  | 152 => some ⟨.struct [(0, 135), (1, 136), (2, 150), (3, 150)], 4, 16, .agg [.int .i32 0, .int .i32 0, .int .i32 0, .int .i32 0]⟩
  | 153 => some ⟨.ptr 27, 1, 8, .nilp⟩
  | _ => none
theorem td3 : tdOf ty 3 = .int .i64 := rfl
theorem sz3 : szOf ty 3 = 1 := rfl
theorem td4 : tdOf ty 4 = .bool := rfl
theorem sz4 : szOf ty 4 = 1 := rfl
theorem ty5 : ty 5 = some ⟨.int .u8, 1, 1, .int .u8 0⟩ := rfl
theorem td5 : tdOf ty 5 = .int .u8 := rfl
theorem sz5 : szOf ty 5 = 1 := rfl
theorem ty9 : ty 9 = some ⟨.str, 1, 16, .str ⟨#[]⟩⟩ := rfl
theorem td9 : tdOf ty 9 = .str := rfl
theorem sz9 : szOf ty 9 = 1 := rfl
theorem td22 : tdOf ty 22 = .slice 44 := rfl
theorem sz22 : szOf ty 22 = 1 := rfl
theorem sz27 : szOf ty 27 = 1 := rfl
theorem ty30 : ty 30 = some ⟨.slice 42, 1, 24, .nils⟩ := rfl
theorem td30 : tdOf ty 30 = .slice 42 := rfl
theorem sz30 : szOf ty 30 = 1 := rfl
theorem ty31 : ty 31 = some ⟨.slice 9, 1, 24, .nils⟩ := rfl
theorem td31 : tdOf ty 31 = .slice 9 := rfl
theorem sz31 : szOf ty 31 = 1 := rfl
theorem ty33 : ty 33 = some ⟨.struct [(0, 3), (1, 30), (2, 31)], 3, 56, .agg [.int .i64 0, .nils, .nils]⟩ := rfl
theorem sz33 : szOf ty 33 = 3 := rfl
theorem td34 : tdOf ty 34 = .int .i64 := rfl
theorem sz34 : szOf ty 34 = 1 := rfl
theorem ty40 : ty 40 = some ⟨.slice 5, 1, 24, .nils⟩ := rfl
theorem td40 : tdOf ty 40 = .slice 5 := rfl
theorem sz40 : szOf ty 40 = 1 := rfl
theorem ty42 : ty 42 = some ⟨.struct [(0, 9), (1, 3), (2, 3), (3, 3), (4, 40)], 5, 64, .agg [.str ⟨#[]⟩, .int .i64 0, .int .i64 0, .int .i64 0, .nils]⟩ := rfl
theorem sz42 : szOf ty 42 = 5 := rfl
theorem sz44 : szOf ty 44 = 6 := rfl
theorem ty60 : ty 60 = some ⟨.func, 1, 8, .nilf⟩ := rfl
theorem ty63 : ty 63 = some ⟨.func, 1, 8, .nilf⟩ := rfl
theorem ty68 : ty 68 = some ⟨.ptr 72, 1, 8, .nilp⟩ := rfl
theorem sz72 : szOf ty 72 = 4 := rfl
theorem ok1 : TiOk Tryd.prog 1 ⟨.func, 1, 8, .nilf⟩ := tiOk_mk (.nilFunc) ⟨_, _, _, Tryd.underlying1⟩ (by kernel_rfl) rfl rfl rfl (by simp [Value.cells, Value.oneCell'])
theorem ok2 : TiOk Tryd.prog 2 ⟨.int .i64, 1, 8, .int .i64 0⟩ := tiOk_mk (.int .i64 0) Tryd.underlying2 (by kernel_rfl) rfl rfl rfl (by simp [Value.cells, Value.oneCell'])
theorem ok3 : TiOk Tryd.prog 3 ⟨.int .i64, 1, 8, .int .i64 0⟩ := tiOk_mk (.int .i64 0) Tryd.underlying3 (by kernel_rfl) rfl rfl rfl (by simp [Value.cells, Value.oneCell'])
theorem ok4 : TiOk Tryd.prog 4 ⟨.bool, 1, 1, .bool false⟩ := tiOk_mk (.bool false) Tryd.underlying4 (by kernel_rfl) rfl rfl rfl (by simp [Value.cells, Value.oneCell'])
theorem ok5 : TiOk Tryd.prog 5 ⟨.int .u8, 1, 1, .int .u8 0⟩ := tiOk_mk (.int .u8 0) Tryd.underlying5 (by kernel_rfl) rfl rfl rfl (by simp [Value.cells, Value.oneCell'])
theorem ok6 : TiOk Tryd.prog 6 ⟨.int .u8, 1, 1, .int .u8 0⟩ := tiOk_mk (.int .u8 0) Tryd.underlying6 (by kernel_rfl) rfl rfl rfl (by simp [Value.cells, Value.oneCell'])
theorem ok7 : TiOk Tryd.prog 7 ⟨.struct [(0, 2), (1, 3), (2, 4), (3, 6)], 4, 24, .agg [.int .i64 0, .int .i64 0, .bool false, .int .u8 0]⟩ := tiOk_mk (.agg #[.int .i64 0, .int .i64 0, .bool false, .int .u8 0]) ⟨_, Tryd.underlying7, rfl⟩ (by kernel_rfl) rfl rfl rfl (by simp [Value.cells, Value.oneCell'])
theorem ok8 : TiOk Tryd.prog 8 ⟨.struct [(0, 2), (1, 3), (2, 4), (3, 6)], 4, 24, .agg [.int .i64 0, .int .i64 0, .bool false, .int .u8 0]⟩ := tiOk_mk (.agg #[.int .i64 0, .int .i64 0, .bool false, .int .u8 0]) ⟨_, Tryd.underlying8, rfl⟩ (by kernel_rfl) rfl rfl rfl (by simp [Value.cells, Value.oneCell'])
theorem ok9 : TiOk Tryd.prog 9 ⟨.str, 1, 16, .str ⟨#[]⟩⟩ := tiOk_mk (.string ⟨#[]⟩) Tryd.underlying9 (by kernel_rfl) rfl rfl rfl (by simp [Value.cells, Value.oneCell'])
theorem ok10 : TiOk Tryd.prog 10 ⟨.str, 1, 16, .str ⟨#[]⟩⟩ := tiOk_mk (.string ⟨#[]⟩) Tryd.underlying10 (by kernel_rfl) rfl rfl rfl (by simp [Value.cells, Value.oneCell'])
theorem ok11 : TiOk Tryd.prog 11 ⟨.str, 1, 16, .str ⟨#[]⟩⟩ := tiOk_mk (.string ⟨#[]⟩) Tryd.underlying11 (by kernel_rfl) rfl rfl rfl (by simp [Value.cells, Value.oneCell'])
theorem ok12 : TiOk Tryd.prog 12 ⟨.int .u64, 1, 8, .int .u64 0⟩ := tiOk_mk (.int .u64 0) Tryd.underlying12 (by kernel_rfl) rfl rfl rfl (by simp [Value.cells, Value.oneCell'])
theorem ok13 : TiOk Tryd.prog 13 ⟨.struct [(0, 9), (1, 12)], 2, 24, .agg [.str ⟨#[]⟩, .int .u64 0]⟩ := tiOk_mk (.agg #[.string ⟨#[]⟩, .int .u64 0]) ⟨_, Tryd.underlying13, rfl⟩ (by kernel_rfl) rfl rfl rfl (by simp [Value.cells, Value.oneCell'])
theorem ok14 : TiOk Tryd.prog 14 ⟨.struct [(0, 9), (1, 12)], 2, 24, .agg [.str ⟨#[]⟩, .int .u64 0]⟩ := tiOk_mk (.agg #[.string ⟨#[]⟩, .int .u64 0]) ⟨_, Tryd.underlying14, rfl⟩ (by kernel_rfl) rfl rfl rfl (by simp [Value.cells, Value.oneCell'])
theorem ok15 : TiOk Tryd.prog 15 ⟨.ptr 125, 1, 8, .nilp⟩ := tiOk_mk (.pointer none) Tryd.underlying15 (by kernel_rfl) rfl rfl rfl (by simp [Value.cells, Value.oneCell'])
theorem ok16 : TiOk Tryd.prog 16 ⟨.ptr 128, 1, 8, .nilp⟩ := tiOk_mk (.pointer none) Tryd.underlying16 (by kernel_rfl) rfl rfl rfl (by simp [Value.cells, Value.oneCell'])
theorem ok17 : TiOk Tryd.prog 17 ⟨.ptr 138, 1, 8, .nilp⟩ := tiOk_mk (.pointer none) Tryd.underlying17 (by kernel_rfl) rfl rfl rfl (by simp [Value.cells, Value.oneCell'])
theorem ok18 : TiOk Tryd.prog 18 ⟨.struct [(0, 17)], 1, 8, .agg [.nilp]⟩ := tiOk_mk (.agg #[.pointer none]) ⟨_, Tryd.underlying18, rfl⟩ (by kernel_rfl) rfl rfl rfl (by simp [Value.cells, Value.oneCell'])
theorem ok19 : TiOk Tryd.prog 19 ⟨.struct [(0, 17)], 1, 8, .agg [.nilp]⟩ := tiOk_mk (.agg #[.pointer none]) ⟨_, Tryd.underlying19, rfl⟩ (by kernel_rfl) rfl rfl rfl (by simp [Value.cells, Value.oneCell'])
theorem ok20 : TiOk Tryd.prog 20 ⟨.iface, 1, 16, .nili⟩ := tiOk_mk (.nilIface) ⟨_, Tryd.underlying20⟩ (by kernel_rfl) rfl rfl rfl (by simp [Value.cells, Value.oneCell'])
theorem ok21 : TiOk Tryd.prog 21 ⟨.int .i32, 1, 4, .int .i32 0⟩ := tiOk_mk (.int .i32 0) Tryd.underlying21 (by kernel_rfl) rfl rfl rfl (by simp [Value.cells, Value.oneCell'])
theorem ok22 : TiOk Tryd.prog 22 ⟨.slice 44, 1, 24, .nils⟩ := tiOk_mk (.slice none 0 0) Tryd.underlying22 (by kernel_rfl) rfl rfl rfl (by simp [Value.cells, Value.oneCell'])
theorem ok23 : TiOk Tryd.prog 23 ⟨.func, 1, 8, .nilf⟩ := tiOk_mk (.nilFunc) ⟨_, _, _, Tryd.underlying23⟩ (by kernel_rfl) rfl rfl rfl (by simp [Value.cells, Value.oneCell'])
theorem ok24 : TiOk Tryd.prog 24 ⟨.func, 1, 8, .nilf⟩ := tiOk_mk (.nilFunc) ⟨_, _, _, Tryd.underlying24⟩ (by kernel_rfl) rfl rfl rfl (by simp [Value.cells, Value.oneCell'])
theorem ok25 : TiOk Tryd.prog 25 ⟨.ptr 67, 1, 8, .nilp⟩ := tiOk_mk (.pointer none) Tryd.underlying25 (by kernel_rfl) rfl rfl rfl (by simp [Value.cells, Value.oneCell'])
theorem ok26 : TiOk Tryd.prog 26 ⟨.iface, 1, 16, .nili⟩ := tiOk_mk (.nilIface) ⟨_, Tryd.underlying26⟩ (by kernel_rfl) rfl rfl rfl (by simp [Value.cells, Value.oneCell'])
theorem ok27 : TiOk Tryd.prog 27 ⟨.iface, 1, 16, .nili⟩ := tiOk_mk (.nilIface) ⟨_, Tryd.underlying27⟩ (by kernel_rfl) rfl rfl rfl (by simp [Value.cells, Value.oneCell'])
theorem ok29 : TiOk Tryd.prog 29 ⟨.func, 1, 8, .nilf⟩ := tiOk_mk (.nilFunc) ⟨_, _, _, Tryd.underlying29⟩ (by kernel_rfl) rfl rfl rfl (by simp [Value.cells, Value.oneCell'])
theorem ok30 : TiOk Tryd.prog 30 ⟨.slice 42, 1, 24, .nils⟩ := tiOk_mk (.slice none 0 0) Tryd.underlying30 (by kernel_rfl) rfl rfl rfl (by simp [Value.cells, Value.oneCell'])
theorem ok31 : TiOk Tryd.prog 31 ⟨.slice 9, 1, 24, .nils⟩ := tiOk_mk (.slice none 0 0) Tryd.underlying31 (by kernel_rfl) rfl rfl rfl (by simp [Value.cells, Value.oneCell'])
theorem ok32 : TiOk Tryd.prog 32 ⟨.struct [(0, 3), (1, 30), (2, 31)], 3, 56, .agg [.int .i64 0, .nils, .nils]⟩ := tiOk_mk (.agg #[.int .i64 0, .slice none 0 0, .slice none 0 0]) ⟨_, Tryd.underlying32, rfl⟩ (by kernel_rfl) rfl rfl rfl (by simp [Value.cells, Value.oneCell'])
theorem ok33 : TiOk Tryd.prog 33 ⟨.struct [(0, 3), (1, 30), (2, 31)], 3, 56, .agg [.int .i64 0, .nils, .nils]⟩ := tiOk_mk (.agg #[.int .i64 0, .slice none 0 0, .slice none 0 0]) ⟨_, Tryd.underlying33, rfl⟩ (by kernel_rfl) rfl rfl rfl (by simp [Value.cells, Value.oneCell'])
theorem ok34 : TiOk Tryd.prog 34 ⟨.int .i64, 1, 8, .int .i64 0⟩ := tiOk_mk (.int .i64 0) Tryd.underlying34 (by kernel_rfl) rfl rfl rfl (by simp [Value.cells, Value.oneCell'])
theorem ok36 : TiOk Tryd.prog 36 ⟨.func, 1, 8, .nilf⟩ := tiOk_mk (.nilFunc) ⟨_, _, _, Tryd.underlying36⟩ (by kernel_rfl) rfl rfl rfl (by simp [Value.cells, Value.oneCell'])
theorem ok37 : TiOk Tryd.prog 37 ⟨.func, 1, 8, .nilf⟩ := tiOk_mk (.nilFunc) ⟨_, _, _, Tryd.underlying37⟩ (by kernel_rfl) rfl rfl rfl (by simp [Value.cells, Value.oneCell'])
theorem ok39 : TiOk Tryd.prog 39 ⟨.func, 1, 8, .nilf⟩ := tiOk_mk (.nilFunc) ⟨_, _, _, Tryd.underlying39⟩ (by kernel_rfl) rfl rfl rfl (by simp [Value.cells, Value.oneCell'])
theorem ok40 : TiOk Tryd.prog 40 ⟨.slice 5, 1, 24, .nils⟩ := tiOk_mk (.slice none 0 0) Tryd.underlying40 (by kernel_rfl) rfl rfl rfl (by simp [Value.cells, Value.oneCell'])
theorem ok41 : TiOk Tryd.prog 41 ⟨.struct [(0, 9), (1, 3), (2, 3), (3, 3), (4, 40)], 5, 64, .agg [.str ⟨#[]⟩, .int .i64 0, .int .i64 0, .int .i64 0, .nils]⟩ := tiOk_mk (.agg #[.string ⟨#[]⟩, .int .i64 0, .int .i64 0, .int .i64 0, .slice none 0 0]) ⟨_, Tryd.underlying41, rfl⟩ (by kernel_rfl) rfl rfl rfl (by simp [Value.cells, Value.oneCell'])
theorem ok42 : TiOk Tryd.prog 42 ⟨.struct [(0, 9), (1, 3), (2, 3), (3, 3), (4, 40)], 5, 64, .agg [.str ⟨#[]⟩, .int .i64 0, .int .i64 0, .int .i64 0, .nils]⟩ := tiOk_mk (.agg #[.string ⟨#[]⟩, .int .i64 0, .int .i64 0, .int .i64 0, .slice none 0 0]) ⟨_, Tryd.underlying42, rfl⟩ (by kernel_rfl) rfl rfl rfl (by simp [Value.cells, Value.oneCell'])
theorem ok43 : TiOk Tryd.prog 43 ⟨.struct [(0, 3), (1, 42)], 6, 72, .agg [.int .i64 0, .str ⟨#[]⟩, .int .i64 0, .int .i64 0, .int .i64 0, .nils]⟩ := tiOk_mk (.agg #[.int .i64 0, .string ⟨#[]⟩, .int .i64 0, .int .i64 0, .int .i64 0, .slice none 0 0]) ⟨_, Tryd.underlying43, rfl⟩ (by kernel_rfl) rfl rfl rfl (by simp [Value.cells, Value.oneCell'])
theorem ok44 : TiOk Tryd.prog 44 ⟨.struct [(0, 3), (1, 42)], 6, 72, .agg [.int .i64 0, .str ⟨#[]⟩, .int .i64 0, .int .i64 0, .int .i64 0, .nils]⟩ := tiOk_mk (.agg #[.int .i64 0, .string ⟨#[]⟩, .int .i64 0, .int .i64 0, .int .i64 0, .slice none 0 0]) ⟨_, Tryd.underlying44, rfl⟩ (by kernel_rfl) rfl rfl rfl (by simp [Value.cells, Value.oneCell'])
theorem ok45 : TiOk Tryd.prog 45 ⟨.func, 1, 8, .nilf⟩ := tiOk_mk (.nilFunc) ⟨_, _, _, Tryd.underlying45⟩ (by kernel_rfl) rfl rfl rfl (by simp [Value.cells, Value.oneCell'])
theorem ok46 : TiOk Tryd.prog 46 ⟨.func, 1, 8, .nilf⟩ := tiOk_mk (.nilFunc) ⟨_, _, _, Tryd.underlying46⟩ (by kernel_rfl) rfl rfl rfl (by simp [Value.cells, Value.oneCell'])
theorem ok47 : TiOk Tryd.prog 47 ⟨.func, 1, 8, .nilf⟩ := tiOk_mk (.nilFunc) ⟨_, _, _, Tryd.underlying47⟩ (by kernel_rfl) rfl rfl rfl (by simp [Value.cells, Value.oneCell'])
theorem ok48 : TiOk Tryd.prog 48 ⟨.func, 1, 8, .nilf⟩ := tiOk_mk (.nilFunc) ⟨_, _, _, Tryd.underlying48⟩ (by kernel_rfl) rfl rfl rfl (by simp [Value.cells, Value.oneCell'])
theorem ok49 : TiOk Tryd.prog 49 ⟨.func, 1, 8, .nilf⟩ := tiOk_mk (.nilFunc) ⟨_, _, _, Tryd.underlying49⟩ (by kernel_rfl) rfl rfl rfl (by simp [Value.cells, Value.oneCell'])
theorem ok50 : TiOk Tryd.prog 50 ⟨.func, 1, 8, .nilf⟩ := tiOk_mk (.nilFunc) ⟨_, _, _, Tryd.underlying50⟩ (by kernel_rfl) rfl rfl rfl (by simp [Value.cells, Value.oneCell'])
theorem ok51 : TiOk Tryd.prog 51 ⟨.func, 1, 8, .nilf⟩ := tiOk_mk (.nilFunc) ⟨_, _, _, Tryd.underlying51⟩ (by kernel_rfl) rfl rfl rfl (by simp [Value.cells, Value.oneCell'])
theorem ok52 : TiOk Tryd.prog 52 ⟨.func, 1, 8, .nilf⟩ := tiOk_mk (.nilFunc) ⟨_, _, _, Tryd.underlying52⟩ (by kernel_rfl) rfl rfl rfl (by simp [Value.cells, Value.oneCell'])
theorem ok53 : TiOk Tryd.prog 53 ⟨.func, 1, 8, .nilf⟩ := tiOk_mk (.nilFunc) ⟨_, _, _, Tryd.underlying53⟩ (by kernel_rfl) rfl rfl rfl (by simp [Value.cells, Value.oneCell'])
theorem ok55 : TiOk Tryd.prog 55 ⟨.func, 1, 8, .nilf⟩ := tiOk_mk (.nilFunc) ⟨_, _, _, Tryd.underlying55⟩ (by kernel_rfl) rfl rfl rfl (by simp [Value.cells, Value.oneCell'])
theorem ok56 : TiOk Tryd.prog 56 ⟨.func, 1, 8, .nilf⟩ := tiOk_mk (.nilFunc) ⟨_, _, _, Tryd.underlying56⟩ (by kernel_rfl) rfl rfl rfl (by simp [Value.cells, Value.oneCell'])
theorem ok57 : TiOk Tryd.prog 57 ⟨.func, 1, 8, .nilf⟩ := tiOk_mk (.nilFunc) ⟨_, _, _, Tryd.underlying57⟩ (by kernel_rfl) rfl rfl rfl (by simp [Value.cells, Value.oneCell'])
theorem ok58 : TiOk Tryd.prog 58 ⟨.func, 1, 8, .nilf⟩ := tiOk_mk (.nilFunc) ⟨_, _, _, Tryd.underlying58⟩ (by kernel_rfl) rfl rfl rfl (by simp [Value.cells, Value.oneCell'])
theorem ok59 : TiOk Tryd.prog 59 ⟨.func, 1, 8, .nilf⟩ := tiOk_mk (.nilFunc) ⟨_, _, _, Tryd.underlying59⟩ (by kernel_rfl) rfl rfl rfl (by simp [Value.cells, Value.oneCell'])
theorem ok60 : TiOk Tryd.prog 60 ⟨.func, 1, 8, .nilf⟩ := tiOk_mk (.nilFunc) ⟨_, _, _, Tryd.underlying60⟩ (by kernel_rfl) rfl rfl rfl (by simp [Value.cells, Value.oneCell'])
theorem ok61 : TiOk Tryd.prog 61 ⟨.struct [(0, 3), (1, 60), (2, 30)], 3, 40, .agg [.int .i64 0, .nilf, .nils]⟩ := tiOk_mk (.agg #[.int .i64 0, .nilFunc, .slice none 0 0]) ⟨_, Tryd.underlying61, rfl⟩ (by kernel_rfl) rfl rfl rfl (by simp [Value.cells, Value.oneCell'])
theorem ok62 : TiOk Tryd.prog 62 ⟨.struct [(0, 3), (1, 60), (2, 30)], 3, 40, .agg [.int .i64 0, .nilf, .nils]⟩ := tiOk_mk (.agg #[.int .i64 0, .nilFunc, .slice none 0 0]) ⟨_, Tryd.underlying62, rfl⟩ (by kernel_rfl) rfl rfl rfl (by simp [Value.cells, Value.oneCell'])
theorem ok63 : TiOk Tryd.prog 63 ⟨.func, 1, 8, .nilf⟩ := tiOk_mk (.nilFunc) ⟨_, _, _, Tryd.underlying63⟩ (by kernel_rfl) rfl rfl rfl (by simp [Value.cells, Value.oneCell'])
theorem ok64 : TiOk Tryd.prog 64 ⟨.struct [(0, 3), (1, 63), (2, 31)], 3, 40, .agg [.int .i64 0, .nilf, .nils]⟩ := tiOk_mk (.agg #[.int .i64 0, .nilFunc, .slice none 0 0]) ⟨_, Tryd.underlying64, rfl⟩ (by kernel_rfl) rfl rfl rfl (by simp [Value.cells, Value.oneCell'])
theorem ok65 : TiOk Tryd.prog 65 ⟨.struct [(0, 3), (1, 63), (2, 31)], 3, 40, .agg [.int .i64 0, .nilf, .nils]⟩ := tiOk_mk (.agg #[.int .i64 0, .nilFunc, .slice none 0 0]) ⟨_, Tryd.underlying65, rfl⟩ (by kernel_rfl) rfl rfl rfl (by simp [Value.cells, Value.oneCell'])
theorem ok66 : TiOk Tryd.prog 66 ⟨.struct [(0, 62), (3, 65)], 6, 80, .agg [.int .i64 0, .nilf, .nils, .int .i64 0, .nilf, .nils]⟩ := tiOk_mk (.agg #[.int .i64 0, .nilFunc, .slice none 0 0, .int .i64 0, .nilFunc, .slice none 0 0]) ⟨_, Tryd.underlying66, rfl⟩ (by kernel_rfl) rfl rfl rfl (by simp [Value.cells, Value.oneCell'])
theorem ok67 : TiOk Tryd.prog 67 ⟨.struct [(0, 62), (3, 65)], 6, 80, .agg [.int .i64 0, .nilf, .nils, .int .i64 0, .nilf, .nils]⟩ := tiOk_mk (.agg #[.int .i64 0, .nilFunc, .slice none 0 0, .int .i64 0, .nilFunc, .slice none 0 0]) ⟨_, Tryd.underlying67, rfl⟩ (by kernel_rfl) rfl rfl rfl (by simp [Value.cells, Value.oneCell'])
theorem ok68 : TiOk Tryd.prog 68 ⟨.ptr 72, 1, 8, .nilp⟩ := tiOk_mk (.pointer none) Tryd.underlying68 (by kernel_rfl) rfl rfl rfl (by simp [Value.cells, Value.oneCell'])
theorem ok69 : TiOk Tryd.prog 69 ⟨.func, 1, 8, .nilf⟩ := tiOk_mk (.nilFunc) ⟨_, _, _, Tryd.underlying69⟩ (by kernel_rfl) rfl rfl rfl (by simp [Value.cells, Value.oneCell'])
theorem ok70 : TiOk Tryd.prog 70 ⟨.ptr 68, 1, 8, .nilp⟩ := tiOk_mk (.pointer none) Tryd.underlying70 (by kernel_rfl) rfl rfl rfl (by simp [Value.cells, Value.oneCell'])
theorem ok71 : TiOk Tryd.prog 71 ⟨.struct [(0, 9), (1, 3), (2, 34), (3, 27)], 4, 48, .agg [.str ⟨#[]⟩, .int .i64 0, .int .i64 0, .nili]⟩ := tiOk_mk (.agg #[.string ⟨#[]⟩, .int .i64 0, .int .i64 0, .nilIface]) ⟨_, Tryd.underlying71, rfl⟩ (by kernel_rfl) rfl rfl rfl (by simp [Value.cells, Value.oneCell'])
theorem ok72 : TiOk Tryd.prog 72 ⟨.struct [(0, 9), (1, 3), (2, 34), (3, 27)], 4, 48, .agg [.str ⟨#[]⟩, .int .i64 0, .int .i64 0, .nili]⟩ := tiOk_mk (.agg #[.string ⟨#[]⟩, .int .i64 0, .int .i64 0, .nilIface]) ⟨_, Tryd.underlying72, rfl⟩ (by kernel_rfl) rfl rfl rfl (by simp [Value.cells, Value.oneCell'])
theorem ok73 : TiOk Tryd.prog 73 ⟨.func, 1, 8, .nilf⟩ := tiOk_mk (.nilFunc) ⟨_, _, _, Tryd.underlying73⟩ (by kernel_rfl) rfl rfl rfl (by simp [Value.cells, Value.oneCell'])
theorem ok75 : TiOk Tryd.prog 75 ⟨.func, 1, 8, .nilf⟩ := tiOk_mk (.nilFunc) ⟨_, _, _, Tryd.underlying75⟩ (by kernel_rfl) rfl rfl rfl (by simp [Value.cells, Value.oneCell'])
theorem ok76 : TiOk Tryd.prog 76 ⟨.func, 1, 8, .nilf⟩ := tiOk_mk (.nilFunc) ⟨_, _, _, Tryd.underlying76⟩ (by kernel_rfl) rfl rfl rfl (by simp [Value.cells, Value.oneCell'])
theorem ok77 : TiOk Tryd.prog 77 ⟨.func, 1, 8, .nilf⟩ := tiOk_mk (.nilFunc) ⟨_, _, _, Tryd.underlying77⟩ (by kernel_rfl) rfl rfl rfl (by simp [Value.cells, Value.oneCell'])
theorem ok78 : TiOk Tryd.prog 78 ⟨.func, 1, 8, .nilf⟩ := tiOk_mk (.nilFunc) ⟨_, _, _, Tryd.underlying78⟩ (by kernel_rfl) rfl rfl rfl (by simp [Value.cells, Value.oneCell'])
theorem ok80 : TiOk Tryd.prog 80 ⟨.func, 1, 8, .nilf⟩ := tiOk_mk (.nilFunc) ⟨_, _, _, Tryd.underlying80⟩ (by kernel_rfl) rfl rfl rfl (by simp [Value.cells, Value.oneCell'])
theorem ok82 : TiOk Tryd.prog 82 ⟨.func, 1, 8, .nilf⟩ := tiOk_mk (.nilFunc) ⟨_, _, _, Tryd.underlying82⟩ (by kernel_rfl) rfl rfl rfl (by simp [Value.cells, Value.oneCell'])
theorem ok83 : TiOk Tryd.prog 83 ⟨.func, 1, 8, .nilf⟩ := tiOk_mk (.nilFunc) ⟨_, _, _, Tryd.underlying83⟩ (by kernel_rfl) rfl rfl rfl (by simp [Value.cells, Value.oneCell'])
theorem ok84 : TiOk Tryd.prog 84 ⟨.func, 1, 8, .nilf⟩ := tiOk_mk (.nilFunc) ⟨_, _, _, Tryd.underlying84⟩ (by kernel_rfl) rfl rfl rfl (by simp [Value.cells, Value.oneCell'])
theorem ok85 : TiOk Tryd.prog 85 ⟨.func, 1, 8, .nilf⟩ := tiOk_mk (.nilFunc) ⟨_, _, _, Tryd.underlying85⟩ (by kernel_rfl) rfl rfl rfl (by simp [Value.cells, Value.oneCell'])
theorem ok86 : TiOk Tryd.prog 86 ⟨.func, 1, 8, .nilf⟩ := tiOk_mk (.nilFunc) ⟨_, _, _, Tryd.underlying86⟩ (by kernel_rfl) rfl rfl rfl (by simp [Value.cells, Value.oneCell'])
theorem ok88 : TiOk Tryd.prog 88 ⟨.int .u64, 1, 8, .int .u64 0⟩ := tiOk_mk (.int .u64 0) Tryd.underlying88 (by kernel_rfl) rfl rfl rfl (by simp [Value.cells, Value.oneCell'])
theorem ok91 : TiOk Tryd.prog 91 ⟨.func, 1, 8, .nilf⟩ := tiOk_mk (.nilFunc) ⟨_, _, _, Tryd.underlying91⟩ (by kernel_rfl) rfl rfl rfl (by simp [Value.cells, Value.oneCell'])
theorem ok92 : TiOk Tryd.prog 92 ⟨.iface, 1, 16, .nili⟩ := tiOk_mk (.nilIface) ⟨_, Tryd.underlying92⟩ (by kernel_rfl) rfl rfl rfl (by simp [Value.cells, Value.oneCell'])
theorem ok93 : TiOk Tryd.prog 93 ⟨.iface, 1, 16, .nili⟩ := tiOk_mk (.nilIface) ⟨_, Tryd.underlying93⟩ (by kernel_rfl) rfl rfl rfl (by simp [Value.cells, Value.oneCell'])
theorem ok94 : TiOk Tryd.prog 94 ⟨.func, 1, 8, .nilf⟩ := tiOk_mk (.nilFunc) ⟨_, _, _, Tryd.underlying94⟩ (by kernel_rfl) rfl rfl rfl (by simp [Value.cells, Value.oneCell'])
theorem ok95 : TiOk Tryd.prog 95 ⟨.int .u8, 1, 1, .int .u8 0⟩ := tiOk_mk (.int .u8 0) Tryd.underlying95 (by kernel_rfl) rfl rfl rfl (by simp [Value.cells, Value.oneCell'])
theorem ok96 : TiOk Tryd.prog 96 ⟨.func, 1, 8, .nilf⟩ := tiOk_mk (.nilFunc) ⟨_, _, _, Tryd.underlying96⟩ (by kernel_rfl) rfl rfl rfl (by simp [Value.cells, Value.oneCell'])
theorem ok97 : TiOk Tryd.prog 97 ⟨.func, 1, 8, .nilf⟩ := tiOk_mk (.nilFunc) ⟨_, _, _, Tryd.underlying97⟩ (by kernel_rfl) rfl rfl rfl (by simp [Value.cells, Value.oneCell'])
theorem ok98 : TiOk Tryd.prog 98 ⟨.func, 1, 8, .nilf⟩ := tiOk_mk (.nilFunc) ⟨_, _, _, Tryd.underlying98⟩ (by kernel_rfl) rfl rfl rfl (by simp [Value.cells, Value.oneCell'])
theorem ok99 : TiOk Tryd.prog 99 ⟨.func, 1, 8, .nilf⟩ := tiOk_mk (.nilFunc) ⟨_, _, _, Tryd.underlying99⟩ (by kernel_rfl) rfl rfl rfl (by simp [Value.cells, Value.oneCell'])
theorem ok100 : TiOk Tryd.prog 100 ⟨.func, 1, 8, .nilf⟩ := tiOk_mk (.nilFunc) ⟨_, _, _, Tryd.underlying100⟩ (by kernel_rfl) rfl rfl rfl (by simp [Value.cells, Value.oneCell'])
theorem ok101 : TiOk Tryd.prog 101 ⟨.ptr 62, 1, 8, .nilp⟩ := tiOk_mk (.pointer none) Tryd.underlying101 (by kernel_rfl) rfl rfl rfl (by simp [Value.cells, Value.oneCell'])
theorem ok102 : TiOk Tryd.prog 102 ⟨.ptr 42, 1, 8, .nilp⟩ := tiOk_mk (.pointer none) Tryd.underlying102 (by kernel_rfl) rfl rfl rfl (by simp [Value.cells, Value.oneCell'])
theorem ok103 : TiOk Tryd.prog 103 ⟨.func, 1, 8, .nilf⟩ := tiOk_mk (.nilFunc) ⟨_, _, _, Tryd.underlying103⟩ (by kernel_rfl) rfl rfl rfl (by simp [Value.cells, Value.oneCell'])
theorem ok104 : TiOk Tryd.prog 104 ⟨.func, 1, 8, .nilf⟩ := tiOk_mk (.nilFunc) ⟨_, _, _, Tryd.underlying104⟩ (by kernel_rfl) rfl rfl rfl (by simp [Value.cells, Value.oneCell'])
theorem ok105 : TiOk Tryd.prog 105 ⟨.func, 1, 8, .nilf⟩ := tiOk_mk (.nilFunc) ⟨_, _, _, Tryd.underlying105⟩ (by kernel_rfl) rfl rfl rfl (by simp [Value.cells, Value.oneCell'])
theorem ok106 : TiOk Tryd.prog 106 ⟨.ptr 65, 1, 8, .nilp⟩ := tiOk_mk (.pointer none) Tryd.underlying106 (by kernel_rfl) rfl rfl rfl (by simp [Value.cells, Value.oneCell'])
theorem ok107 : TiOk Tryd.prog 107 ⟨.func, 1, 8, .nilf⟩ := tiOk_mk (.nilFunc) ⟨_, _, _, Tryd.underlying107⟩ (by kernel_rfl) rfl rfl rfl (by simp [Value.cells, Value.oneCell'])
theorem ok108 : TiOk Tryd.prog 108 ⟨.struct [(0, 17)], 1, 8, .agg [.nilp]⟩ := tiOk_mk (.agg #[.pointer none]) ⟨_, Tryd.underlying108, rfl⟩ (by kernel_rfl) rfl rfl rfl (by simp [Value.cells, Value.oneCell'])
theorem ok109 : TiOk Tryd.prog 109 ⟨.struct [(0, 17)], 1, 8, .agg [.nilp]⟩ := tiOk_mk (.agg #[.pointer none]) ⟨_, Tryd.underlying109, rfl⟩ (by kernel_rfl) rfl rfl rfl (by simp [Value.cells, Value.oneCell'])
theorem ok110 : TiOk Tryd.prog 110 ⟨.ptr 143, 1, 8, .nilp⟩ := tiOk_mk (.pointer none) Tryd.underlying110 (by kernel_rfl) rfl rfl rfl (by simp [Value.cells, Value.oneCell'])
theorem ok111 : TiOk Tryd.prog 111 ⟨.func, 1, 8, .nilf⟩ := tiOk_mk (.nilFunc) ⟨_, _, _, Tryd.underlying111⟩ (by kernel_rfl) rfl rfl rfl (by simp [Value.cells, Value.oneCell'])
theorem ok112 : TiOk Tryd.prog 112 ⟨.func, 1, 8, .nilf⟩ := tiOk_mk (.nilFunc) ⟨_, _, _, Tryd.underlying112⟩ (by kernel_rfl) rfl rfl rfl (by simp [Value.cells, Value.oneCell'])
theorem ok113 : TiOk Tryd.prog 113 ⟨.func, 1, 8, .nilf⟩ := tiOk_mk (.nilFunc) ⟨_, _, _, Tryd.underlying113⟩ (by kernel_rfl) rfl rfl rfl (by simp [Value.cells, Value.oneCell'])
theorem ok114 : TiOk Tryd.prog 114 ⟨.iface, 1, 16, .nili⟩ := tiOk_mk (.nilIface) ⟨_, Tryd.underlying114⟩ (by kernel_rfl) rfl rfl rfl (by simp [Value.cells, Value.oneCell'])
theorem ok116 : TiOk Tryd.prog 116 ⟨.func, 1, 8, .nilf⟩ := tiOk_mk (.nilFunc) ⟨_, _, _, Tryd.underlying116⟩ (by kernel_rfl) rfl rfl rfl (by simp [Value.cells, Value.oneCell'])
theorem ok117 : TiOk Tryd.prog 117 ⟨.iface, 1, 16, .nili⟩ := tiOk_mk (.nilIface) ⟨_, Tryd.underlying117⟩ (by kernel_rfl) rfl rfl rfl (by simp [Value.cells, Value.oneCell'])
theorem ok118 : TiOk Tryd.prog 118 ⟨.func, 1, 8, .nilf⟩ := tiOk_mk (.nilFunc) ⟨_, _, _, Tryd.underlying118⟩ (by kernel_rfl) rfl rfl rfl (by simp [Value.cells, Value.oneCell'])
theorem ok119 : TiOk Tryd.prog 119 ⟨.iface, 1, 16, .nili⟩ := tiOk_mk (.nilIface) ⟨_, Tryd.underlying119⟩ (by kernel_rfl) rfl rfl rfl (by simp [Value.cells, Value.oneCell'])
theorem ok120 : TiOk Tryd.prog 120 ⟨.slice 27, 1, 24, .nils⟩ := tiOk_mk (.slice none 0 0) Tryd.underlying120 (by kernel_rfl) rfl rfl rfl (by simp [Value.cells, Value.oneCell'])
theorem ok121 : TiOk Tryd.prog 121 ⟨.func, 1, 8, .nilf⟩ := tiOk_mk (.nilFunc) ⟨_, _, _, Tryd.underlying121⟩ (by kernel_rfl) rfl rfl rfl (by simp [Value.cells, Value.oneCell'])
theorem ok122 : TiOk Tryd.prog 122 ⟨.ptr 9, 1, 8, .nilp⟩ := tiOk_mk (.pointer none) Tryd.underlying122 (by kernel_rfl) rfl rfl rfl (by simp [Value.cells, Value.oneCell'])
theorem ok123 : TiOk Tryd.prog 123 ⟨.func, 1, 8, .nilf⟩ := tiOk_mk (.nilFunc) ⟨_, _, _, Tryd.underlying123⟩ (by kernel_rfl) rfl rfl rfl (by simp [Value.cells, Value.oneCell'])
theorem ok124 : TiOk Tryd.prog 124 ⟨.struct [(0, 17), (1, 17), (2, 17), (3, 9)], 4, 40, .agg [.nilp, .nilp, .nilp, .str ⟨#[]⟩]⟩ := tiOk_mk (.agg #[.pointer none, .pointer none, .pointer none, .string ⟨#[]⟩]) ⟨_, Tryd.underlying124, rfl⟩ (by kernel_rfl) rfl rfl rfl (by simp [Value.cells, Value.oneCell'])
theorem ok125 : TiOk Tryd.prog 125 ⟨.struct [(0, 17), (1, 17), (2, 17), (3, 9)], 4, 40, .agg [.nilp, .nilp, .nilp, .str ⟨#[]⟩]⟩ := tiOk_mk (.agg #[.pointer none, .pointer none, .pointer none, .string ⟨#[]⟩]) ⟨_, Tryd.underlying125, rfl⟩ (by kernel_rfl) rfl rfl rfl (by simp [Value.cells, Value.oneCell'])
theorem ok129 : TiOk Tryd.prog 129 ⟨.func, 1, 8, .nilf⟩ := tiOk_mk (.nilFunc) ⟨_, _, _, Tryd.underlying129⟩ (by kernel_rfl) rfl rfl rfl (by simp [Value.cells, Value.oneCell'])
theorem ok130 : TiOk Tryd.prog 130 ⟨.func, 1, 8, .nilf⟩ := tiOk_mk (.nilFunc) ⟨_, _, _, Tryd.underlying130⟩ (by kernel_rfl) rfl rfl rfl (by simp [Value.cells, Value.oneCell'])
theorem ok131 : TiOk Tryd.prog 131 ⟨.int .u32, 1, 4, .int .u32 0⟩ := tiOk_mk (.int .u32 0) Tryd.underlying131 (by kernel_rfl) rfl rfl rfl (by simp [Value.cells, Value.oneCell'])
theorem ok132 : TiOk Tryd.prog 132 ⟨.int .u8, 1, 1, .int .u8 0⟩ := tiOk_mk (.int .u8 0) Tryd.underlying132 (by kernel_rfl) rfl rfl rfl (by simp [Value.cells, Value.oneCell'])
theorem ok133 : TiOk Tryd.prog 133 ⟨.func, 1, 8, .nilf⟩ := tiOk_mk (.nilFunc) ⟨_, _, _, Tryd.underlying133⟩ (by kernel_rfl) rfl rfl rfl (by simp [Value.cells, Value.oneCell'])
theorem ok134 : TiOk Tryd.prog 134 ⟨.ptr 5, 1, 8, .nilp⟩ := tiOk_mk (.pointer none) Tryd.underlying134 (by kernel_rfl) rfl rfl rfl (by simp [Value.cells, Value.oneCell'])
theorem ok135 : TiOk Tryd.prog 135 ⟨.int .i32, 1, 4, .int .i32 0⟩ := tiOk_mk (.int .i32 0) Tryd.underlying135 (by kernel_rfl) rfl rfl rfl (by simp [Value.cells, Value.oneCell'])
theorem ok136 : TiOk Tryd.prog 136 ⟨.int .i32, 1, 4, .int .i32 0⟩ := tiOk_mk (.int .i32 0) Tryd.underlying136 (by kernel_rfl) rfl rfl rfl (by simp [Value.cells, Value.oneCell'])
theorem ok137 : TiOk Tryd.prog 137 ⟨.struct [(0, 12), (1, 12), (2, 131), (3, 132), (4, 5), (5, 5), (6, 95), (7, 133), (8, 134), (9, 135), (10, 136)], 11, 48, .agg [.int .u64 0, .int .u64 0, .int .u32 0, .int .u8 0, .int .u8 0, .int .u8 0, .int .u8 0, .nilf, .nilp, .int .i32 0, .int .i32 0]⟩ := tiOk_mk (.agg #[.int .u64 0, .int .u64 0, .int .u32 0, .int .u8 0, .int .u8 0, .int .u8 0, .int .u8 0, .nilFunc, .pointer none, .int .i32 0, .int .i32 0]) ⟨_, Tryd.underlying137, rfl⟩ (by kernel_rfl) rfl rfl rfl (by simp [Value.cells, Value.oneCell'])
theorem ok138 : TiOk Tryd.prog 138 ⟨.struct [(0, 12), (1, 12), (2, 131), (3, 132), (4, 5), (5, 5), (6, 95), (7, 133), (8, 134), (9, 135), (10, 136)], 11, 48, .agg [.int .u64 0, .int .u64 0, .int .u32 0, .int .u8 0, .int .u8 0, .int .u8 0, .int .u8 0, .nilf, .nilp, .int .i32 0, .int .i32 0]⟩ := tiOk_mk (.agg #[.int .u64 0, .int .u64 0, .int .u32 0, .int .u8 0, .int .u8 0, .int .u8 0, .int .u8 0, .nilFunc, .pointer none, .int .i32 0, .int .i32 0]) ⟨_, Tryd.underlying138, rfl⟩ (by kernel_rfl) rfl rfl rfl (by simp [Value.cells, Value.oneCell'])
theorem ok139 : TiOk Tryd.prog 139 ⟨.func, 1, 8, .nilf⟩ := tiOk_mk (.nilFunc) ⟨_, _, _, Tryd.underlying139⟩ (by kernel_rfl) rfl rfl rfl (by simp [Value.cells, Value.oneCell'])
theorem ok140 : TiOk Tryd.prog 140 ⟨.func, 1, 8, .nilf⟩ := tiOk_mk (.nilFunc) ⟨_, _, _, Tryd.underlying140⟩ (by kernel_rfl) rfl rfl rfl (by simp [Value.cells, Value.oneCell'])
theorem ok141 : TiOk Tryd.prog 141 ⟨.func, 1, 8, .nilf⟩ := tiOk_mk (.nilFunc) ⟨_, _, _, Tryd.underlying141⟩ (by kernel_rfl) rfl rfl rfl (by simp [Value.cells, Value.oneCell'])
theorem ok142 : TiOk Tryd.prog 142 ⟨.struct [(0, 9), (1, 95)], 2, 24, .agg [.str ⟨#[]⟩, .int .u8 0]⟩ := tiOk_mk (.agg #[.string ⟨#[]⟩, .int .u8 0]) ⟨_, Tryd.underlying142, rfl⟩ (by kernel_rfl) rfl rfl rfl (by simp [Value.cells, Value.oneCell'])
theorem ok143 : TiOk Tryd.prog 143 ⟨.struct [(0, 9), (1, 95)], 2, 24, .agg [.str ⟨#[]⟩, .int .u8 0]⟩ := tiOk_mk (.agg #[.string ⟨#[]⟩, .int .u8 0]) ⟨_, Tryd.underlying143, rfl⟩ (by kernel_rfl) rfl rfl rfl (by simp [Value.cells, Value.oneCell'])
theorem ok144 : TiOk Tryd.prog 144 ⟨.ptr 148, 1, 8, .nilp⟩ := tiOk_mk (.pointer none) Tryd.underlying144 (by kernel_rfl) rfl rfl rfl (by simp [Value.cells, Value.oneCell'])
theorem ok145 : TiOk Tryd.prog 145 ⟨.func, 1, 8, .nilf⟩ := tiOk_mk (.nilFunc) ⟨_, _, _, Tryd.underlying145⟩ (by kernel_rfl) rfl rfl rfl (by simp [Value.cells, Value.oneCell'])
theorem ok146 : TiOk Tryd.prog 146 ⟨.int .u16, 1, 2, .int .u16 0⟩ := tiOk_mk (.int .u16 0) Tryd.underlying146 (by kernel_rfl) rfl rfl rfl (by simp [Value.cells, Value.oneCell'])
theorem ok147 : TiOk Tryd.prog 147 ⟨.struct [(0, 135), (1, 146), (2, 146), (3, 131), (4, 131)], 5, 16, .agg [.int .i32 0, .int .u16 0, .int .u16 0, .int .u32 0, .int .u32 0]⟩ := tiOk_mk (.agg #[.int .i32 0, .int .u16 0, .int .u16 0, .int .u32 0, .int .u32 0]) ⟨_, Tryd.underlying147, rfl⟩ (by kernel_rfl) rfl rfl rfl (by simp [Value.cells, Value.oneCell'])
theorem ok148 : TiOk Tryd.prog 148 ⟨.struct [(0, 135), (1, 146), (2, 146), (3, 131), (4, 131)], 5, 16, .agg [.int .i32 0, .int .u16 0, .int .u16 0, .int .u32 0, .int .u32 0]⟩ := tiOk_mk (.agg #[.int .i32 0, .int .u16 0, .int .u16 0, .int .u32 0, .int .u32 0]) ⟨_, Tryd.underlying148, rfl⟩ (by kernel_rfl) rfl rfl rfl (by simp [Value.cells, Value.oneCell'])
theorem ok149 : TiOk Tryd.prog 149 ⟨.slice 152, 1, 24, .nils⟩ := tiOk_mk (.slice none 0 0) Tryd.underlying149 (by kernel_rfl) rfl rfl rfl (by simp [Value.cells, Value.oneCell'])
theorem ok150 : TiOk Tryd.prog 150 ⟨.int .i32, 1, 4, .int .i32 0⟩ := tiOk_mk (.int .i32 0) Tryd.underlying150 (by kernel_rfl) rfl rfl rfl (by simp [Value.cells, Value.oneCell'])
theorem ok151 : TiOk Tryd.prog 151 ⟨.struct [(0, 135), (1, 136), (2, 150), (3, 150)], 4, 16, .agg [.int .i32 0, .int .i32 0, .int .i32 0, .int .i32 0]⟩ := tiOk_mk (.agg #[.int .i32 0, .int .i32 0, .int .i32 0, .int .i32 0]) ⟨_, Tryd.underlying151, rfl⟩ (by kernel_rfl) rfl rfl rfl (by simp [Value.cells, Value.oneCell'])
theorem ok152 : TiOk Tryd.prog 152 ⟨.struct [(0, 135), (1, 136), (2, 150), (3, 150)], 4, 16, .agg [.int .i32 0, .int .i32 0, .int .i32 0, .int .i32 0]⟩ := tiOk_mk (.agg #[.int .i32 0, .int .i32 0, .int .i32 0, .int .i32 0]) ⟨_, Tryd.underlying152, rfl⟩ (by kernel_rfl) rfl rfl rfl (by simp [Value.cells, Value.oneCell'])
theorem ok153 : TiOk Tryd.prog 153 ⟨.ptr 27, 1, 8, .nilp⟩ := tiOk_mk (.pointer none) Tryd.underlying153 (by kernel_rfl) rfl rfl rfl (by simp [Value.cells, Value.oneCell'])
theorem tk : TyOk Tryd.prog ty := by
  intro t i h
  unfold ty at h
  split at h
  · cases h; exact ok1
  · cases h; exact ok2
  · cases h; exact ok3
  · cases h; exact ok4
  · cases h; exact ok5
  · cases h; exact ok6
  · cases h; exact ok7
  · cases h; exact ok8
  · cases h; exact ok9
  · cases h; exact ok10
  · cases h; exact ok11
  · cases h; exact ok12
  · cases h; exact ok13
  · cases h; exact ok14
  · cases h; exact ok15
  · cases h; exact ok16
  · cases h; exact ok17
  · cases h; exact ok18
  · cases h; exact ok19
  · cases h; exact ok20
  · cases h; exact ok21
  · cases h; exact ok22
  · cases h; exact ok23
  · cases h; exact ok24
  · cases h; exact ok25
  · cases h; exact ok26
  · cases h; exact ok27
  · cases h; exact ok29
  · cases h; exact ok30
  · cases h; exact ok31
  · cases h; exact ok32
  · cases h; exact ok33
  · cases h; exact ok34
  · cases h; exact ok36
  · cases h; exact ok37
  · cases h; exact ok39
  · cases h; exact ok40
  · cases h; exact ok41
  · cases h; exact ok42
  · cases h; exact ok43
  · cases h; exact ok44
  · cases h; exact ok45
  · cases h; exact ok46
  · cases h; exact ok47
  · cases h; exact ok48
  · cases h; exact ok49
  · cases h; exact ok50
  · cases h; exact ok51
  · cases h; exact ok52
  · cases h; exact ok53
  · cases h; exact ok55
  · cases h; exact ok56
  · cases h; exact ok57
  · cases h; exact ok58
  · cases h; exact ok59
  · cases h; exact ok60
  · cases h; exact ok61
  · cases h; exact ok62
  · cases h; exact ok63
  · cases h; exact ok64
  · cases h; exact ok65
  · cases h; exact ok66
  · cases h; exact ok67
  · cases h; exact ok68
  · cases h; exact ok69
  · cases h; exact ok70
  · cases h; exact ok71
  · cases h; exact ok72
  · cases h; exact ok73
  · cases h; exact ok75
  · cases h; exact ok76
  · cases h; exact ok77
  · cases h; exact ok78
  · cases h; exact ok80
  · cases h; exact ok82
  · cases h; exact ok83
  · cases h; exact ok84
  · cases h; exact ok85
  · cases h; exact ok86
  · cases h; exact ok88
  · cases h; exact ok91
  · cases h; exact ok92
  · cases h; exact ok93
  · cases h; exact ok94
  · cases h; exact ok95
  · cases h; exact ok96
  · cases h; exact ok97
  · cases h; exact ok98
  · cases h; exact ok99
  · cases h; exact ok100
  · cases h; exact ok101
  · cases h; exact ok102
  · cases h; exact ok103
  · cases h; exact ok104
  · cases h; exact ok105
  · cases h; exact ok106
  · cases h; exact ok107
  · cases h; exact ok108
  · cases h; exact ok109
  · cases h; exact ok110
  · cases h; exact ok111
  · cases h; exact ok112
  · cases h; exact ok113
  · cases h; exact ok114
  · cases h; exact ok116
  · cases h; exact ok117
  · cases h; exact ok118
  · cases h; exact ok119
  · cases h; exact ok120
  · cases h; exact ok121
  · cases h; exact ok122
  · cases h; exact ok123
  · cases h; exact ok124
  · cases h; exact ok125
  · cases h; exact ok129
  · cases h; exact ok130
  · cases h; exact ok131
  · cases h; exact ok132
  · cases h; exact ok133
  · cases h; exact ok134
  · cases h; exact ok135
  · cases h; exact ok136
  · cases h; exact ok137
  · cases h; exact ok138
  · cases h; exact ok139
  · cases h; exact ok140
  · cases h; exact ok141
  · cases h; exact ok142
  · cases h; exact ok143
  · cases h; exact ok144
  · cases h; exact ok145
  · cases h; exact ok146
  · cases h; exact ok147
  · cases h; exact ok148
  · cases h; exact ok149
  · cases h; exact ok150
  · cases h; exact ok151
  · cases h; exact ok152
  · cases h; exact ok153
  · cases h
theorem mixed : Tryd.prog.follows .mixedOrders = true := by kernel_rfl
end Go.Proofs.YtmgjdbbggajljaaDoor
namespace Go.Proofs.YtmgjdbbggajljaaDoor
open Go Go.Va
set_option linter.unusedSimpArgs false
set_option linter.unusedVariables false
inductive Err where
  | nil
  | fault (op : List (BitVec 8)) (at_ : Int) (code : Int) (under : Err)
  deriving DecidableEq
def Err.isNil : Err → Bool
  | .nil => true
  | _ => false
def eErr : Err → AV
  | .nil => .nili
  | .fault o a c u => .iface 68 (.fptr [eS o, eI a, eI c, eErr u] 0)
theorem eErr_cut (nl nt : Nat → Option Nat) : ∀ e, cutAV nl nt (eErr e) = eErr e
  | .nil => rfl
  | .fault o a c u => by simp only [eErr, cutAV, cutL, eErr_cut nl nt u, eS, eI]
theorem eErr_flat (e : Err) : flatAV (eErr e) = true := by cases e <;> rfl
theorem encErr : Enc ty 27 1 eErr := ⟨sz27, by decide, fun x => (by cases x <;> rfl), fun h => (by cases h), fun _ x => (by cases x <;> rfl), fun x => (by cases x <;> rfl), eErr_cut⟩
structure runtime_boundsError where
  x : Int
  y : Int
  signed : Bool
  code : BitVec 8
  deriving DecidableEq
def c_runtime_boundsError (x : runtime_boundsError) : List AV := [eI x.x, eI x.y, eB x.signed, (@eU .u8 8) x.code]
def e_runtime_boundsError (x : runtime_boundsError) : AV := .agg (c_runtime_boundsError x)
def z_runtime_boundsError : runtime_boundsError := ⟨(0 : Int), (0 : Int), false, 0#8⟩
structure runtime_errorAddressString where
  msg : List (BitVec 8)
  addr : BitVec 64
  deriving DecidableEq
def c_runtime_errorAddressString (x : runtime_errorAddressString) : List AV := [eS x.msg, (@eU .u64 64) x.addr]
def e_runtime_errorAddressString (x : runtime_errorAddressString) : AV := .agg (c_runtime_errorAddressString x)
def z_runtime_errorAddressString : runtime_errorAddressString := ⟨([] : List (BitVec 8)), 0#64⟩
structure api_Entry where
  Key : List (BitVec 8)
  Version : Int
  AsOf : Int
  Ends : Int
  Value : List (BitVec 8)
  deriving DecidableEq
def c_api_Entry (x : api_Entry) : List AV := [eS x.Key, eI x.Version, eI x.AsOf, eI x.Ends, (eL 1 (@eU .u8 8)) x.Value]
def e_api_Entry (x : api_Entry) : AV := .agg (c_api_Entry x)
def z_api_Entry : api_Entry := ⟨([] : List (BitVec 8)), (0 : Int), (0 : Int), (0 : Int), ([] : List (BitVec 8))⟩
theorem c_api_Entry_cut (nl nt : Nat → Option Nat) (x : api_Entry) : cutL nl nt (c_api_Entry x) = c_api_Entry x := by simp only [cutL, e_api_Entry, c_api_Entry, cutAV, (enc_s td9 sz9).cut nl nt, (enc_i64 td3 sz3).cut nl nt, (enc_i64 td3 sz3).cut nl nt, (enc_i64 td3 sz3).cut nl nt, (enc_l td40 sz40 (enc_u td5 sz5).cut).cut nl nt]
theorem enc42 : Enc ty 42 5 e_api_Entry := ⟨sz42, by decide, fun _ => rfl, fun _ _ => rfl, fun h => (by cases h), fun _ => rfl, fun nl nt x => by simp only [e_api_Entry, cutAV, c_api_Entry_cut]⟩
structure R19_Jobs where
  Limit : Int
  Down : List api_Entry
  Up : List (List (BitVec 8))
  deriving DecidableEq
def c_R19_Jobs (x : R19_Jobs) : List AV := [eI x.Limit, (eL 5 e_api_Entry) x.Down, (eL 1 eS) x.Up]
def e_R19_Jobs (x : R19_Jobs) : AV := .agg (c_R19_Jobs x)
def z_R19_Jobs : R19_Jobs := ⟨(0 : Int), ([] : List api_Entry), ([] : List (List (BitVec 8)))⟩
theorem c_R19_Jobs_cut (nl nt : Nat → Option Nat) (x : R19_Jobs) : cutL nl nt (c_R19_Jobs x) = c_R19_Jobs x := by simp only [cutL, e_R19_Jobs, c_R19_Jobs, cutAV, (enc_i64 td3 sz3).cut nl nt, (enc_l td30 sz30 enc42.cut).cut nl nt, (enc_l td31 sz31 (enc_s td9 sz9).cut).cut nl nt]
theorem enc33 : Enc ty 33 3 e_R19_Jobs := ⟨sz33, by decide, fun _ => rfl, fun _ _ => rfl, fun h => (by cases h), fun _ => rfl, fun nl nt x => by simp only [e_R19_Jobs, cutAV, c_R19_Jobs_cut]⟩
structure L19_Op where
  Kind : Int
  X : api_Entry
  deriving DecidableEq
def c_L19_Op (x : L19_Op) : List AV := [eI x.Kind] ++ (c_api_Entry x.X)
def e_L19_Op (x : L19_Op) : AV := .agg (c_L19_Op x)
def z_L19_Op : L19_Op := ⟨(0 : Int), z_api_Entry⟩
theorem c_L19_Op_cut (nl nt : Nat → Option Nat) (x : L19_Op) : cutL nl nt (c_L19_Op x) = c_L19_Op x := by simp only [cutL, e_L19_Op, c_L19_Op, cutAV, (enc_i64 td3 sz3).cut nl nt, c_api_Entry_cut nl nt, cutL_append]
theorem enc44 : Enc ty 44 6 e_L19_Op := ⟨sz44, by decide, fun _ => rfl, fun _ _ => rfl, fun h => (by cases h), fun _ => rfl, fun nl nt x => by simp only [e_L19_Op, cutAV, c_L19_Op_cut]⟩
structure jobs_Jobs where
  down_limit : Int
  down_l : List api_Entry
  up_limit : Int
  up_l : List (List (BitVec 8))
  deriving DecidableEq
def c_jobs_Jobs (i_down_key i_up_key : FuncId) (x : jobs_Jobs) : List AV := [eI x.down_limit, .fn (.func i_down_key) [] [], .nils, eI x.up_limit, .fn (.func i_up_key) [] [], .nils]
theorem c_jobs_Jobs_cut (nl nt : Nat → Option Nat) (i_down_key i_up_key : FuncId) (x : jobs_Jobs) : cutL nl nt (c_jobs_Jobs i_down_key i_up_key x) = c_jobs_Jobs i_down_key i_up_key x := by simp only [c_jobs_Jobs, cutL, cutAV, (enc_i64 td3 sz3).cut nl nt, (enc_i64 td3 sz3).cut nl nt]
structure trouble_fault where
  op : List (BitVec 8)
  at_ : Int
  code : Int
  under : Err
  deriving DecidableEq
def c_trouble_fault (x : trouble_fault) : List AV := [eS x.op, eI x.at_, eI x.code, eErr x.under]
def e_trouble_fault (x : trouble_fault) : AV := .agg (c_trouble_fault x)
def z_trouble_fault : trouble_fault := ⟨([] : List (BitVec 8)), (0 : Int), (0 : Int), Err.nil⟩
theorem c_trouble_fault_cut (nl nt : Nat → Option Nat) (x : trouble_fault) : cutL nl nt (c_trouble_fault x) = c_trouble_fault x := by simp only [cutL, e_trouble_fault, c_trouble_fault, cutAV, (enc_s td9 sz9).cut nl nt, (enc_i64 td3 sz3).cut nl nt, (enc_i64 td34 sz34).cut nl nt, encErr.cut nl nt]
theorem enc72 : Enc ty 72 4 e_trouble_fault := ⟨sz72, by decide, fun _ => rfl, fun _ _ => rfl, fun h => (by cases h), fun x => (by simp only [e_trouble_fault, c_trouble_fault, AV.cells, List.all_cons, List.all_nil, eErr_flat]; rfl), fun nl nt x => by simp only [e_trouble_fault, cutAV, c_trouble_fault_cut]⟩
structure reflectlite_ValueError where
  Method : List (BitVec 8)
  Kind : BitVec 8
  deriving DecidableEq
def c_reflectlite_ValueError (x : reflectlite_ValueError) : List AV := [eS x.Method, (@eU .u8 8) x.Kind]
def e_reflectlite_ValueError (x : reflectlite_ValueError) : AV := .agg (c_reflectlite_ValueError x)
def z_reflectlite_ValueError : reflectlite_ValueError := ⟨([] : List (BitVec 8)), 0#8⟩
structure abi_Method where
  Name : Int
  Mtyp : Int
  Ifn : Int
  Tfn : Int
  deriving DecidableEq
def c_abi_Method (x : abi_Method) : List AV := [(eK .i32) x.Name, (eK .i32) x.Mtyp, (eK .i32) x.Ifn, (eK .i32) x.Tfn]
def e_abi_Method (x : abi_Method) : AV := .agg (c_abi_Method x)
def z_abi_Method : abi_Method := ⟨(0 : Int), (0 : Int), (0 : Int), (0 : Int)⟩
end Go.Proofs.YtmgjdbbggajljaaDoor
namespace Go.Proofs.YtmgjdbbggajljaaDoor
open Go Go.Va
set_option linter.unusedVariables false
set_option linter.unusedSimpArgs false
set_option maxRecDepth 20000
noncomputable def item_Copy (x0 : api_Entry) : Option (api_Entry) :=
 (app 1 ([] : List (BitVec 8)) x0.Value).bind fun v6 =>
 lt (({ x0 with Value := v6 } : api_Entry)) fun c10 =>
 some (c10 : api_Entry)
noncomputable def jobs_New_1 (x0 : api_Entry) : Option ((List (BitVec 8))) :=
 some x0.Key
noncomputable def jobs_Queue_api_Entry_find_1_c (x0 : api_Entry) (x1 : jobs_Jobs) (x2 : List (BitVec 8)) : Option (Bool) :=
 (jobs_New_1 x0).bind fun v2 =>
 lt (v2 == x2) fun v4 =>
 some v4
noncomputable def slices_IndexFunc_api_Entry_api_Entry_jobs_Queue_api_Entry_find_1_c_b0 (x0 : List api_Entry) (x1 : jobs_Jobs) (x2 : List (BitVec 8)) (v2 : Int) (c3 : Int) : Option ((Int) ⊕ (Unit ⊕ (Int))) :=
 lt (decide (c3 < v2)) fun v14 =>
 if v14 = true then
  (ix x0 c3).bind fun v17 =>
  (jobs_Queue_api_Entry_find_1_c v17 x1 x2).bind fun v19 =>
  if v19 = true then
   some (.inr (.inr c3))
  else
   lt (w64 (c3 + (1 : Int))) fun v23 =>
   some (.inl v23)
 else
  some (.inr (.inl ()))
noncomputable def slices_IndexFunc_api_Entry_api_Entry_jobs_Queue_api_Entry_find_1_c_l0 (x0 : List api_Entry) (x1 : jobs_Jobs) (x2 : List (BitVec 8)) (v2 : Int) (s : Int) : Option (Unit ⊕ (Int)) := loopO (fun s => slices_IndexFunc_api_Entry_api_Entry_jobs_Queue_api_Entry_find_1_c_b0 x0 x1 x2 v2 s) s
noncomputable def slices_IndexFunc_api_Entry_api_Entry_jobs_Queue_api_Entry_find_1_c (x0 : List api_Entry) (x1 : jobs_Jobs) (x2 : List (BitVec 8)) : Option (Int) :=
 lt (((x0).length : Int)) fun v2 =>
 (slices_IndexFunc_api_Entry_api_Entry_jobs_Queue_api_Entry_find_1_c_l0 x0 x1 x2 v2 (0 : Int)).bind fun o4 =>
  Sum.elim (fun s11 : Unit =>
   some (-1 : Int)
   ) (fun y => some y) o4
noncomputable def jobs_Queue_api_Entry_find (x0 : jobs_Jobs) (x1 : List (BitVec 8)) : Option (Int) :=
 (slices_IndexFunc_api_Entry_api_Entry_jobs_Queue_api_Entry_find_1_c x0.down_l x0 x1).bind fun v2 =>
 some v2
noncomputable def slices_Delete_api_Entry_api_Entry (x0 : List api_Entry) (x1 x2 : Int) : Option (List api_Entry) := delO x0 x1 x2
noncomputable def slices_Clone_api_Entry_api_EntryV (x0 : List api_Entry) : Option ((List api_Entry)) :=
 (app 64 ([] : List api_Entry) x0).bind fun v8 =>
 some v8
noncomputable def jobs_Queue_api_Entry_drop (x0 : jobs_Jobs) (x1 : List (BitVec 8)) : Option (api_Entry × Bool × jobs_Jobs) :=
 (jobs_Queue_api_Entry_find x0 x1).bind fun v6 =>
 lt (decide (v6 < (0 : Int))) fun v8 =>
 if v8 = true then
  some ((z_api_Entry : api_Entry), false, x0)
 else
  (ix x0.down_l v6).bind fun v14 =>
  (slices_Clone_api_Entry_api_EntryV x0.down_l).bind fun v19 =>
  lt (w64 (v6 + (1 : Int))) fun v24 =>
  (slices_Delete_api_Entry_api_Entry v19 v6 v24).bind fun v26 =>
  some (((v14 : api_Entry) : api_Entry), true, ({ x0 with down_l := v26 } : jobs_Jobs))
noncomputable def jobs_Queue_api_Entry_push (x0 : jobs_Jobs) (x1 : api_Entry) : Option (Bool × jobs_Jobs) :=
 lt (((x0.down_l).length : Int)) fun v4 =>
 lt (decide (v4 ≥ x0.down_limit)) fun v6 =>
 if v6 = true then
  some (false, x0)
 else
  lt (([x1] : List api_Entry)) fun v9 =>
  (app 64 x0.down_l v9).bind fun v11 =>
  some (true, ({ x0 with down_l := v11 } : jobs_Jobs))
noncomputable def jobs_Jobs_Push (x0 : jobs_Jobs) (x1 : api_Entry) : Option (Bool × jobs_Jobs) :=
 (jobs_Queue_api_Entry_drop x0 x1.Key).bind fun v4 =>
 (item_Copy x1).bind fun v7 =>
 (jobs_Queue_api_Entry_push v4.2.2 v7).bind fun v9 =>
 some (v9.1, v9.2)
noncomputable def R02_Same_b0 (x0 : List (BitVec 8)) (x1 : List (BitVec 8)) (c8 : Int) : Option ((Int) ⊕ (Unit ⊕ (Bool))) :=
 lt (((x0).length : Int)) fun v19 =>
 lt (decide (c8 < v19)) fun v21 =>
 if v21 = true then
  (ix x0 c8).bind fun v24 =>
  (ix x1 c8).bind fun v26 =>
  lt (v24 != v26) fun v28 =>
  if v28 = true then
   some (.inr (.inr false))
  else
   lt (w64 (c8 + (1 : Int))) fun v32 =>
   some (.inl v32)
 else
  some (.inr (.inl ()))
noncomputable def R02_Same_l0 (x0 : List (BitVec 8)) (x1 : List (BitVec 8)) (s : Int) : Option (Unit ⊕ (Bool)) := loopO (fun s => R02_Same_b0 x0 x1 s) s
noncomputable def R02_Same (x0 : List (BitVec 8)) (x1 : List (BitVec 8)) : Option (Bool) :=
 lt (((x0).length : Int)) fun v2 =>
 lt (((x1).length : Int)) fun v4 =>
 lt (v2 != v4) fun v6 =>
 if v6 = true then
  some false
 else
  (R02_Same_l0 x0 x1 (0 : Int)).bind fun o9 =>
   Sum.elim (fun s16 : Unit =>
    some true
    ) (fun y => some y) o9
noncomputable def R06_Same (x0 : api_Entry) (x1 : api_Entry) : Option (Bool) :=
 lt (x0.Key == x1.Key) fun v2 =>
 if v2 = true then
  lt (x0.Version == x1.Version) fun v5 =>
  if v5 = true then
   lt (x0.AsOf == x1.AsOf) fun v8 =>
   if v8 = true then
    lt (x0.Ends == x1.Ends) fun v11 =>
    if v11 = true then
     (R02_Same x0.Value x1.Value).bind fun v14 =>
     some v14
    else
     some false
   else
    some false
  else
   some false
 else
  some false
noncomputable def jobs_Queue_api_Entry_pop (x0 : jobs_Jobs) : Option (api_Entry × Bool × jobs_Jobs) :=
 lt (((x0.down_l).length : Int)) fun v6 =>
 lt (v6 == (0 : Int)) fun v8 =>
 if v8 = true then
  some ((z_api_Entry : api_Entry), false, x0)
 else
  (ix x0.down_l (0 : Int)).bind fun v14 =>
  (cutFrom x0.down_l (1 : Int)).bind fun v19 =>
  some (((v14 : api_Entry) : api_Entry), true, ({ x0 with down_l := v19 } : jobs_Jobs))
noncomputable def jobs_Jobs_Pop (x0 : jobs_Jobs) : Option (api_Entry × Bool × jobs_Jobs) :=
 (jobs_Queue_api_Entry_pop x0).bind fun v6 =>
 some ((v6.1 : api_Entry), v6.2.1, v6.2.2)
noncomputable def jobs_Jobs_Find (x0 : jobs_Jobs) (x1 : List (BitVec 8)) : Option (api_Entry × Bool) :=
 (jobs_Queue_api_Entry_find x0 x1).bind fun v4 =>
 lt (decide (v4 < (0 : Int))) fun v6 =>
 if v6 = true then
  some (((⟨([] : List (BitVec 8)), (0 : Int), (0 : Int), (0 : Int), ([] : List (BitVec 8))⟩ : api_Entry) : api_Entry), false)
 else
  (ix x0.down_l v4).bind fun v10 =>
  (item_Copy v10).bind fun v12 =>
  some ((v12 : api_Entry), true)
noncomputable def jobs_Jobs_Drop (x0 : jobs_Jobs) (x1 : List (BitVec 8)) : Option (api_Entry × Bool × jobs_Jobs) :=
 (jobs_Queue_api_Entry_drop x0 x1).bind fun v6 =>
 some ((v6.1 : api_Entry), v6.2.1, v6.2.2)
noncomputable def jobs_New_2 (x0 : List (BitVec 8)) : Option ((List (BitVec 8))) :=
 some x0
noncomputable def jobs_Queue_string_find_1_c (x0 : List (BitVec 8)) (x1 : jobs_Jobs) (x2 : List (BitVec 8)) : Option (Bool) :=
 (jobs_New_2 x0).bind fun v2 =>
 lt (v2 == x2) fun v4 =>
 some v4
noncomputable def slices_IndexFunc_string_string_jobs_Queue_string_find_1_c_b0 (x0 : List (List (BitVec 8))) (x1 : jobs_Jobs) (x2 : List (BitVec 8)) (v2 : Int) (c3 : Int) : Option ((Int) ⊕ (Unit ⊕ (Int))) :=
 lt (decide (c3 < v2)) fun v14 =>
 if v14 = true then
  (ix x0 c3).bind fun v17 =>
  (jobs_Queue_string_find_1_c v17 x1 x2).bind fun v19 =>
  if v19 = true then
   some (.inr (.inr c3))
  else
   lt (w64 (c3 + (1 : Int))) fun v23 =>
   some (.inl v23)
 else
  some (.inr (.inl ()))
noncomputable def slices_IndexFunc_string_string_jobs_Queue_string_find_1_c_l0 (x0 : List (List (BitVec 8))) (x1 : jobs_Jobs) (x2 : List (BitVec 8)) (v2 : Int) (s : Int) : Option (Unit ⊕ (Int)) := loopO (fun s => slices_IndexFunc_string_string_jobs_Queue_string_find_1_c_b0 x0 x1 x2 v2 s) s
noncomputable def slices_IndexFunc_string_string_jobs_Queue_string_find_1_c (x0 : List (List (BitVec 8))) (x1 : jobs_Jobs) (x2 : List (BitVec 8)) : Option (Int) :=
 lt (((x0).length : Int)) fun v2 =>
 (slices_IndexFunc_string_string_jobs_Queue_string_find_1_c_l0 x0 x1 x2 v2 (0 : Int)).bind fun o4 =>
  Sum.elim (fun s11 : Unit =>
   some (-1 : Int)
   ) (fun y => some y) o4
noncomputable def jobs_Queue_string_find (x0 : jobs_Jobs) (x1 : List (BitVec 8)) : Option (Int) :=
 (slices_IndexFunc_string_string_jobs_Queue_string_find_1_c x0.up_l x0 x1).bind fun v2 =>
 some v2
noncomputable def jobs_Queue_string_push (x0 : jobs_Jobs) (x1 : List (BitVec 8)) : Option (Bool × jobs_Jobs) :=
 lt (((x0.up_l).length : Int)) fun v4 =>
 lt (decide (v4 ≥ x0.up_limit)) fun v6 =>
 if v6 = true then
  some (false, x0)
 else
  lt (([x1] : List (List (BitVec 8)))) fun v9 =>
  (app 16 x0.up_l v9).bind fun v11 =>
  some (true, ({ x0 with up_l := v11 } : jobs_Jobs))
noncomputable def jobs_Jobs_Want (x0 : jobs_Jobs) (x1 : List (BitVec 8)) : Option (Bool × jobs_Jobs) :=
 (jobs_Queue_string_find x0 x1).bind fun v4 =>
 lt (decide (v4 ≥ (0 : Int))) fun v6 =>
 if v6 = true then
  some (true, x0)
 else
  (jobs_Queue_string_push x0 x1).bind fun v9 =>
  some (v9.1, v9.2)
noncomputable def R12_But_b0 (x0 : List api_Entry) (x1 : List (BitVec 8)) (c1 : List api_Entry) (c2 : Int) : Option (((List api_Entry) × Int) ⊕ ((List api_Entry))) :=
 lt (((x0).length : Int)) fun v14 =>
 lt (decide (c2 < v14)) fun v16 =>
 if v16 = true then
  (ix x0 c2).bind fun v19 =>
  lt (v19.Key != x1) fun v21 =>
  if v21 = true then
   (ix x0 c2).bind fun v24 =>
   lt (([v24] : List api_Entry)) fun v26 =>
   (app 64 c1 v26).bind fun v28 =>
   lt (w64 (c2 + (1 : Int))) fun v32 =>
   some (.inl (v28, v32))
  else
   lt (w64 (c2 + (1 : Int))) fun v34 =>
   some (.inl (c1, v34))
 else
  some (.inr c1)
noncomputable def R12_But_l0 (x0 : List api_Entry) (x1 : List (BitVec 8)) (s : (List api_Entry) × Int) : Option ((List api_Entry)) := loopO (fun s => R12_But_b0 x0 x1 s.1 s.2) s
noncomputable def R12_But (x0 : List api_Entry) (x1 : List (BitVec 8)) : Option ((List api_Entry)) :=
 (R12_But_l0 x0 x1 ([], (0 : Int))).bind fun s11 =>
  some s11
noncomputable def R19_Push (x0 : R19_Jobs) (x1 : api_Entry) : Option (R19_Jobs × Bool) :=
 (R12_But x0.Down x1.Key).bind fun v7 =>
 lt (((({ (x0 : R19_Jobs) with Down := v7 } : R19_Jobs).Down).length : Int)) fun v11 =>
 lt (decide (v11 ≥ x0.Limit)) fun v13 =>
 if v13 = true then
  some ((({ (x0 : R19_Jobs) with Down := v7 } : R19_Jobs) : R19_Jobs), false)
 else
  lt (([x1] : List api_Entry)) fun v17 =>
  (app 64 (({ (x0 : R19_Jobs) with Down := v7 } : R19_Jobs).Down) v17).bind fun v19 =>
  some ((({ ({ (x0 : R19_Jobs) with Down := v7 } : R19_Jobs) with Down := v19 } : R19_Jobs) : R19_Jobs), true)
noncomputable def R19_Pop (x0 : R19_Jobs) : Option (R19_Jobs × api_Entry × Bool) :=
 lt (((x0.Down).length : Int)) fun v6 =>
 lt (v6 == (0 : Int)) fun v8 =>
 if v8 = true then
  some ((x0 : R19_Jobs), ((⟨([] : List (BitVec 8)), (0 : Int), (0 : Int), (0 : Int), ([] : List (BitVec 8))⟩ : api_Entry) : api_Entry), false)
 else
  (cutFrom x0.Down (1 : Int)).bind fun v16 =>
  lt (({ (x0 : R19_Jobs) with Down := v16 } : R19_Jobs)) fun c18 =>
  (ix x0.Down (0 : Int)).bind fun v21 =>
  some ((c18 : R19_Jobs), (v21 : api_Entry), true)
noncomputable def R06_Find_b0 (x0 : List api_Entry) (x1 : List (BitVec 8)) (c1 : Int) : Option ((Int) ⊕ (Unit ⊕ (Int))) :=
 lt (((x0).length : Int)) fun v12 =>
 lt (decide (c1 < v12)) fun v14 =>
 if v14 = true then
  (ix x0 c1).bind fun v17 =>
  lt (v17.Key == x1) fun v19 =>
  if v19 = true then
   some (.inr (.inr c1))
  else
   lt (w64 (c1 + (1 : Int))) fun v23 =>
   some (.inl v23)
 else
  some (.inr (.inl ()))
noncomputable def R06_Find_l0 (x0 : List api_Entry) (x1 : List (BitVec 8)) (s : Int) : Option (Unit ⊕ (Int)) := loopO (fun s => R06_Find_b0 x0 x1 s) s
noncomputable def R06_Find (x0 : List api_Entry) (x1 : List (BitVec 8)) : Option (Int) :=
 (R06_Find_l0 x0 x1 (0 : Int)).bind fun o2 =>
  Sum.elim (fun s9 : Unit =>
   some (-1 : Int)
   ) (fun y => some y) o2
noncomputable def R19_Find (x0 : R19_Jobs) (x1 : List (BitVec 8)) : Option (api_Entry × Bool) :=
 (R06_Find x0.Down x1).bind fun v4 =>
 lt (decide (v4 < (0 : Int))) fun v6 =>
 if v6 = true then
  some (((⟨([] : List (BitVec 8)), (0 : Int), (0 : Int), (0 : Int), ([] : List (BitVec 8))⟩ : api_Entry) : api_Entry), false)
 else
  (ix x0.Down v4).bind fun v10 =>
  some ((v10 : api_Entry), true)
noncomputable def R19_Drop (x0 : R19_Jobs) (x1 : List (BitVec 8)) : Option (R19_Jobs) :=
 (R12_But x0.Down x1).bind fun v7 =>
 lt (({ (x0 : R19_Jobs) with Down := v7 } : R19_Jobs)) fun c9 =>
 some (c9 : R19_Jobs)
noncomputable def R19_Waits_b0 (x0 : R19_Jobs) (x1 : List (BitVec 8)) (c1 : Int) : Option ((Int) ⊕ (Unit ⊕ (Bool))) :=
 lt (((x0.Up).length : Int)) fun v12 =>
 lt (decide (c1 < v12)) fun v14 =>
 if v14 = true then
  (ix x0.Up c1).bind fun v17 =>
  lt (v17 == x1) fun v19 =>
  if v19 = true then
   some (.inr (.inr true))
  else
   lt (w64 (c1 + (1 : Int))) fun v23 =>
   some (.inl v23)
 else
  some (.inr (.inl ()))
noncomputable def R19_Waits_l0 (x0 : R19_Jobs) (x1 : List (BitVec 8)) (s : Int) : Option (Unit ⊕ (Bool)) := loopO (fun s => R19_Waits_b0 x0 x1 s) s
noncomputable def R19_Waits (x0 : R19_Jobs) (x1 : List (BitVec 8)) : Option (Bool) :=
 (R19_Waits_l0 x0 x1 (0 : Int)).bind fun o2 =>
  Sum.elim (fun s9 : Unit =>
   some false
   ) (fun y => some y) o2
noncomputable def R19_Want (x0 : R19_Jobs) (x1 : List (BitVec 8)) : Option (R19_Jobs × Bool) :=
 (R19_Waits x0 x1).bind fun v4 =>
 if v4 = true then
  some ((x0 : R19_Jobs), true)
 else
  lt (((x0.Up).length : Int)) fun v8 =>
  lt (decide (v8 ≥ x0.Limit)) fun v10 =>
  if v10 = true then
   some ((x0 : R19_Jobs), false)
  else
   (app 16 ([] : List (List (BitVec 8))) x0.Up).bind fun v18 =>
   lt (([x1] : List (List (BitVec 8)))) fun v23 =>
   (app 16 (({ ({ (x0 : R19_Jobs) with Up := [] } : R19_Jobs) with Up := v18 } : R19_Jobs).Up) v23).bind fun v25 =>
   some ((({ ({ ({ (x0 : R19_Jobs) with Up := [] } : R19_Jobs) with Up := v18 } : R19_Jobs) with Up := v25 } : R19_Jobs) : R19_Jobs), true)
noncomputable def R19_Wanted (x0 : R19_Jobs) : Option (R19_Jobs × (List (BitVec 8)) × Bool) :=
 lt (((x0.Up).length : Int)) fun v4 =>
 lt (v4 == (0 : Int)) fun v6 =>
 if v6 = true then
  some ((x0 : R19_Jobs), ([] : List (BitVec 8)), false)
 else
  (cutFrom x0.Up (1 : Int)).bind fun v13 =>
  lt (({ (x0 : R19_Jobs) with Up := v13 } : R19_Jobs)) fun c15 =>
  (ix x0.Up (0 : Int)).bind fun v18 =>
  some ((c15 : R19_Jobs), v18, true)
noncomputable def jobs_Queue_string_pop (x0 : jobs_Jobs) : Option ((List (BitVec 8)) × Bool × jobs_Jobs) :=
 lt (((x0.up_l).length : Int)) fun v4 =>
 lt (v4 == (0 : Int)) fun v6 =>
 if v6 = true then
  some (([] : List (BitVec 8)), false, x0)
 else
  (ix x0.up_l (0 : Int)).bind fun v11 =>
  (cutFrom x0.up_l (1 : Int)).bind fun v13 =>
  some (v11, true, ({ x0 with up_l := v13 } : jobs_Jobs))
noncomputable def jobs_Jobs_Wanted (x0 : jobs_Jobs) : Option ((List (BitVec 8)) × Bool × jobs_Jobs) :=
 (jobs_Queue_string_pop x0).bind fun v4 =>
 some (v4.1, v4.2.1, v4.2.2)
noncomputable def L19_do (x0 : jobs_Jobs) (x1 : R19_Jobs) (x2 : L19_Op) : Option (R19_Jobs × Bool × jobs_Jobs) :=
 lt (x2.Kind == (0 : Int)) fun v6 =>
 if v6 = true then
  (R19_Push x1 x2.X).bind fun v9 =>
  (jobs_Jobs_Push x0 x2.X).bind fun v14 =>
  lt (v14.1 == v9.2) fun v17 =>
  some (((v9.1 : R19_Jobs) : R19_Jobs), v17, v14.2)
 else
  lt (x2.Kind == (1 : Int)) fun v20 =>
  if v20 = true then
   (R19_Pop x1).bind fun v23 =>
   (jobs_Jobs_Pop x0).bind fun v31 =>
   lt (v23.2.2 == v31.2.1) fun v37 =>
   if v37 = true then
    (R06_Same (v23.2.1 : api_Entry) (v31.1 : api_Entry)).bind fun v40 =>
    some (((v23.1 : R19_Jobs) : R19_Jobs), v40, v31.2.2)
   else
    some (((v23.1 : R19_Jobs) : R19_Jobs), false, v31.2.2)
  else
   lt (x2.Kind == (2 : Int)) fun v44 =>
   if v44 = true then
    (R19_Find x1 x2.X.Key).bind fun v47 =>
    (jobs_Jobs_Drop x0 x2.X.Key).bind fun v52 =>
    (R19_Drop x1 x2.X.Key).bind fun v58 =>
    lt (v47.2 == v52.2.1) fun v60 =>
    if v60 = true then
     (R06_Same (v47.1 : api_Entry) (v52.1 : api_Entry)).bind fun v63 =>
     some ((v58 : R19_Jobs), v63, v52.2.2)
    else
     some ((v58 : R19_Jobs), false, v52.2.2)
   else
    lt (x2.Kind == (3 : Int)) fun v67 =>
    if v67 = true then
     (R19_Want x1 x2.X.Key).bind fun v70 =>
     (jobs_Jobs_Want x0 x2.X.Key).bind fun v75 =>
     lt (v75.1 == v70.2) fun v78 =>
     some (((v70.1 : R19_Jobs) : R19_Jobs), v78, v75.2)
    else
     lt (x2.Kind == (4 : Int)) fun v81 =>
     if v81 = true then
      (R19_Wanted x1).bind fun v84 =>
      (jobs_Jobs_Wanted x0).bind fun v89 =>
      lt (v84.2.2 == v89.2.1) fun v92 =>
      if v92 = true then
       lt (v84.2.1 == v89.1) fun v95 =>
       some (((v84.1 : R19_Jobs) : R19_Jobs), v95, v89.2.2)
      else
       some (((v84.1 : R19_Jobs) : R19_Jobs), false, v89.2.2)
     else
      (R19_Find x1 x2.X.Key).bind fun v99 =>
      (jobs_Jobs_Find x0 x2.X.Key).bind fun v104 =>
      lt (v99.2 == v104.2) fun v109 =>
      if v109 = true then
       (R06_Same (v99.1 : api_Entry) (v104.1 : api_Entry)).bind fun v112 =>
       some ((x1 : R19_Jobs), v112, x0)
      else
       some ((x1 : R19_Jobs), false, x0)
noncomputable def jobs_Jobs_Down_b0 (x0 : jobs_Jobs) (v2 : Int) (c3 : List api_Entry) (c4 : Int) : Option (((List api_Entry) × Int) ⊕ ((List api_Entry))) :=
 lt (decide (c4 < v2)) fun v16 =>
 if v16 = true then
  (ix x0.down_l c4).bind fun v19 =>
  (item_Copy (v19 : api_Entry)).bind fun v24 =>
  lt (([v24] : List api_Entry)) fun v26 =>
  (app 64 c3 v26).bind fun v28 =>
  lt (w64 (c4 + (1 : Int))) fun v32 =>
  some (.inl (v28, v32))
 else
  some (.inr c3)
noncomputable def jobs_Jobs_Down_l0 (x0 : jobs_Jobs) (v2 : Int) (s : (List api_Entry) × Int) : Option ((List api_Entry)) := loopO (fun s => jobs_Jobs_Down_b0 x0 v2 s.1 s.2) s
noncomputable def jobs_Jobs_Down (x0 : jobs_Jobs) : Option ((List api_Entry)) :=
 lt (((x0.down_l).length : Int)) fun v2 =>
 (jobs_Jobs_Down_l0 x0 v2 ([], (0 : Int))).bind fun s13 =>
  some s13
noncomputable def slices_Clone_string_string (x0 : List (List (BitVec 8))) : Option ((List (List (BitVec 8)))) :=
 (app 16 ([] : List (List (BitVec 8))) x0).bind fun v6 =>
 some v6
noncomputable def jobs_Jobs_Up (x0 : jobs_Jobs) : Option ((List (List (BitVec 8)))) :=
 (slices_Clone_string_string x0.up_l).bind fun v2 =>
 some v2
noncomputable def L06_Light_b0 (x0 : List api_Entry) (c6 : Int) (c7 : Int) : Option ((Int × Int) ⊕ (Unit ⊕ (Int))) :=
 lt (((x0).length : Int)) fun v18 =>
 lt (decide (c7 < v18)) fun v20 =>
 if v20 = true then
  (
   (ix x0 c7).bind fun v27 =>
   lt (((v27.Key).length : Int)) fun v29 =>
   lt (decide (v29 > (200 : Int))) fun v31 =>
   if v31 = true then
    some true
   else
    (ix x0 c7).bind fun v34 =>
    lt (((v34.Value).length : Int)) fun v36 =>
    lt (decide (v36 > (5000 : Int))) fun v38 =>
    some v38
  : Option (Bool)).bind fun s22 =>
   if s22 = true then
    some (.inr (.inr (1 : Int)))
   else
    (ix x0 c7).bind fun v43 =>
    lt (((v43.Value).length : Int)) fun v45 =>
    lt (w64 (c6 + v45)) fun v47 =>
    lt (decide (v47 > (12000 : Int))) fun v49 =>
    if v49 = true then
     some (.inr (.inr (1 : Int)))
    else
     lt (w64 (c7 + (1 : Int))) fun v53 =>
     some (.inl (v47, v53))
 else
  some (.inr (.inl ()))
noncomputable def L06_Light_l0 (x0 : List api_Entry) (s : Int × Int) : Option (Unit ⊕ (Int)) := loopO (fun s => L06_Light_b0 x0 s.1 s.2) s
noncomputable def L06_Light (x0 : List api_Entry) : Option (Int) :=
 lt (((x0).length : Int)) fun v2 =>
 lt (decide (v2 > (40 : Int))) fun v4 =>
 if v4 = true then
  some (1 : Int)
 else
  (L06_Light_l0 x0 ((0 : Int), (0 : Int))).bind fun o8 =>
   Sum.elim (fun s15 : Unit =>
    some (0 : Int)
    ) (fun y => some y) o8
noncomputable def L19_light_b0 (x0 : List L19_Op) (c6 : List api_Entry) (c7 : Int) : Option (((List api_Entry) × Int) ⊕ ((List api_Entry))) :=
 lt (((x0).length : Int)) fun v19 =>
 lt (decide (c7 < v19)) fun v21 =>
 if v21 = true then
  (ix x0 c7).bind fun v24 =>
  lt (([v24.X] : List api_Entry)) fun v26 =>
  (app 64 c6 v26).bind fun v28 =>
  lt (w64 (c7 + (1 : Int))) fun v32 =>
  some (.inl (v28, v32))
 else
  some (.inr c6)
noncomputable def L19_light_l0 (x0 : List L19_Op) (s : (List api_Entry) × Int) : Option ((List api_Entry)) := loopO (fun s => L19_light_b0 x0 s.1 s.2) s
noncomputable def L19_light (x0 : List L19_Op) : Option (Bool) :=
 lt (((x0).length : Int)) fun v2 =>
 lt (decide (v2 > (40 : Int))) fun v4 =>
 if v4 = true then
  some false
 else
  (L19_light_l0 x0 ([], (0 : Int))).bind fun s16 =>
   (L06_Light s16).bind fun v35 =>
   lt (v35 == (0 : Int)) fun v37 =>
   some v37
noncomputable def trouble_New (x0 : List (BitVec 8)) (x1 : Int) (x2 : Int) : Option (Err) :=
 lt (x2 == (0 : Int)) fun v2 =>
 if v2 = true then
  some Err.nil
 else
  lt ((⟨x0, x1, x2, Err.nil⟩ : trouble_fault)) fun v5 =>
  some (Err.fault v5.op v5.at_ v5.code v5.under)
noncomputable def jobs_New (x0 : Int) : Option ((Option jobs_Jobs) × Err) :=
 (
  lt (decide (x0 < (0 : Int))) fun v6 =>
  if v6 = true then
   some true
  else
   lt (decide (x0 > (64 : Int))) fun v9 =>
   some v9
 : Option (Bool)).bind fun s1 =>
  if s1 = true then
   (trouble_New ([106#8, 111#8, 98#8, 115#8] : List (BitVec 8)) x0 (2 : Int)).bind fun v13 =>
   some (none, v13)
  else
   some (some (⟨x0, ([] : List api_Entry), x0, ([] : List (List (BitVec 8)))⟩ : jobs_Jobs), Err.nil)
end Go.Proofs.YtmgjdbbggajljaaDoor
namespace Go.Va
open Go
set_option linter.unusedVariables false
set_option linter.unusedSimpArgs false

theorem loopO_up {S X : Type} {body : S → Option (S ⊕ X)} (g : Nat → S) (n : Nat) {x : X} (h : ∀ i, i < n → body (g i) = some (.inl (g (i + 1)))) (hx : body (g n) = some (.inr x)) : loopO body (g 0) = some x := by
  have key : ∀ k, k ≤ n → loopO body (g (n - k)) = some x := by
    intro k
    induction k with
    | zero => intro _; exact loopO_out hx
    | succ k ih =>
      intro hk
      rw [loopO_in (h (n - (k + 1)) (by omega)), show n - (k + 1) + 1 = n - k by omega]
      exact ih (by omega)
  have := key n (Nat.le_refl _)
  rwa [Nat.sub_self] at this
def nx {S X : Type} (o : Option X) (s : S) : S ⊕ X := match o with | none => .inl s | some y => .inr y
theorem loopO_find {S X : Type} {body : S → Option (S ⊕ X)} (g : Nat → S) (n : Nat) (f : Nat → Option X) {x : X} (h : ∀ i, i < n → body (g i) = some (nx (f i) (g (i + 1)))) (hx : body (g n) = some (.inr x)) : loopO body (g 0) = some (((List.range n).findSome? f).getD x) := by
  have key : ∀ k, k ≤ n → loopO body (g (n - k)) = some (((List.range' (n - k) k).findSome? f).getD x) := by
    intro k
    induction k with
    | zero => intro _; exact loopO_out hx
    | succ k ih =>
      intro hk
      rw [List.range'_succ, List.findSome?_cons]
      have h1 := h (n - (k + 1)) (by omega)
      cases hf : f (n - (k + 1)) with
      | none =>
        rw [hf] at h1
        rw [loopO_in (s' := g (n - (k + 1) + 1)) h1, show n - (k + 1) + 1 = n - k by omega]
        exact ih (by omega)
      | some y => rw [hf] at h1; exact loopO_out h1
  have := key n (Nat.le_refl _)
  rwa [Nat.sub_self, ← List.range_eq_range'] at this
theorem loopO_inv {S X : Type} {body : S → Option (S ⊕ X)} (I : S → Prop) (m : S → Nat) (Q : X → Prop) (h : ∀ s, I s → (∃ s', body s = some (.inl s') ∧ I s' ∧ m s' < m s) ∨ ∃ x, body s = some (.inr x) ∧ Q x) {s : S} (h0 : I s) : ∃ x, loopO body s = some x ∧ Q x := by
  generalize hk : m s = k
  induction k using Nat.strongRecOn generalizing s with
  | _ k ih =>
    rcases h s h0 with ⟨s', h1, h2, h3⟩ | ⟨x, h1, h2⟩
    · obtain ⟨x, k1, k2⟩ := ih (m s') (hk ▸ h3) h2 rfl
      exact ⟨x, by rw [loopO_in h1]; exact k1, k2⟩
    · exact ⟨x, loopO_out h1, h2⟩
theorem ix_nat {α : Type} {l : List α} {i : Nat} (h : i < l.length) : ix l (i : Int) = some l[i] := by
  unfold ix
  rw [if_pos (by omega)]
  simp [h]
theorem w64_nat {i : Nat} (h : i < 9223372036854775807) : w64 ((i : Int) + 1) = ((i + 1 : Nat) : Int) := by
  rw [w64_eq (by omega) (by omega)]; omega
theorem app_eq {α : Type} {b : Nat} {l m : List α} (h : (l.length + m.length) * b ≤ 140737488355328) : app b l m = some (l ++ m) := by simp [app, h]
theorem cutFrom_eq {α : Type} {l : List α} {n : Nat} (h : n ≤ l.length) : cutFrom l (n : Int) = some (l.drop n) := by
  unfold cutFrom
  rw [if_pos ⟨by omega, by omega⟩]; simp
end Go.Va
namespace Go.Proofs.YtmgjdbbggajljaaDoor
open Go Go.Va
set_option linter.unusedVariables false
set_option linter.unusedSimpArgs false
set_option maxRecDepth 20000
def codeOf : Err → Int
 | .nil => 0
 | .fault o a c u => if c = 0 then codeOf u else c
def trouble_Of_b0 : Err → Option (Err ⊕ (Unit ⊕ Int))
 | .nil => some (.inr (.inl ()))
 | .fault o a c u => if (c != 0) = true then some (.inr (.inr c)) else some (.inl u)
def trouble_Of (x : Err) : Option Int := some (codeOf x)
theorem trouble_Of_l0 : ∀ x : Err, loopO trouble_Of_b0 x = some (if codeOf x = 0 then .inl () else .inr (codeOf x))
 | .nil => loopO_out rfl
 | .fault o a c u => by
  by_cases hc : c = 0
  · rw [loopO_in (s' := u) (by simp [trouble_Of_b0, hc]), trouble_Of_l0 u]; simp [codeOf, hc]
  · rw [loopO_out (x := .inr c) (by simp [trouble_Of_b0, hc])]; simp [codeOf, hc]
noncomputable def L19_works : Option (Bool) :=
 (jobs_New (2 : Int)).bind fun v2 =>
 Option.elim v2.1 (
  (jobs_New (65 : Int)).bind fun v8 =>
  Option.elim v8.1 (
   some false
  ) (fun c9 =>
   some false
  )
 ) (fun c3 =>
  (jobs_New (65 : Int)).bind fun v18 =>
  Option.elim v18.1 (
   lt (!Err.isNil v2.2) fun v24 =>
   if v24 = true then
    some false
   else
    (jobs_Jobs_Push ({ c3 with down_l := [], up_l := [] } : jobs_Jobs) (⟨([97#8] : List (BitVec 8)), (1 : Int), (1 : Int), (0 : Int), ([] : List (BitVec 8))⟩ : api_Entry)).bind fun v27 =>
    (jobs_Jobs_Push v27.2 (⟨([98#8] : List (BitVec 8)), (1 : Int), (1 : Int), (0 : Int), ([] : List (BitVec 8))⟩ : api_Entry)).bind fun v30 =>
    (jobs_Jobs_Push v30.2 (⟨([99#8] : List (BitVec 8)), (1 : Int), (1 : Int), (0 : Int), ([] : List (BitVec 8))⟩ : api_Entry)).bind fun v33 =>
    (jobs_Jobs_Push v33.2 (⟨([97#8] : List (BitVec 8)), (2 : Int), (2 : Int), (0 : Int), ([] : List (BitVec 8))⟩ : api_Entry)).bind fun v36 =>
    (jobs_Jobs_Pop v36.2).bind fun v39 =>
    (jobs_Jobs_Find v39.2.2 ([97#8] : List (BitVec 8))).bind fun v45 =>
    (jobs_Jobs_Drop v39.2.2 ([97#8] : List (BitVec 8))).bind fun v50 =>
    (trouble_Of v18.2).bind fun v56 =>
    lt (v56 == (2 : Int)) fun v58 =>
    if v58 = true then
     if v27.1 = true then
      if v30.1 = true then
       lt (!v33.1) fun v63 =>
       if v63 = true then
        if v36.1 = true then
         if v39.2.1 = true then
          lt (((v39.1 : api_Entry).Key) == ([98#8] : List (BitVec 8))) fun v68 =>
          if v68 = true then
           if v45.2 = true then
            lt (((v45.1 : api_Entry).Version) == (2 : Int)) fun v72 =>
            if v72 = true then
             if v50.2.1 = true then
              lt (((v50.1 : api_Entry).Version) == (2 : Int)) fun v76 =>
              if v76 = true then
               (jobs_Jobs_Want v50.2.2 ([107#8] : List (BitVec 8))).bind fun v79 =>
               if v79.1 = true then
                (jobs_Jobs_Want v79.2 ([107#8] : List (BitVec 8))).bind fun v83 =>
                if v83.1 = true then
                 (jobs_Jobs_Up v83.2).bind fun v87 =>
                 lt (((v87).length : Int)) fun v89 =>
                 lt (v89 == (1 : Int)) fun v91 =>
                 if v91 = true then
                  (jobs_Jobs_Down v83.2).bind fun v94 =>
                  lt (((v94).length : Int)) fun v96 =>
                  lt (v96 == (0 : Int)) fun v98 =>
                  some v98
                 else
                  some false
                else
                 some false
               else
                some false
              else
               some false
             else
              some false
            else
             some false
           else
            some false
          else
           some false
         else
          some false
        else
         some false
       else
        some false
      else
       some false
     else
      some false
    else
     some false
  ) (fun c19 =>
   lt (!Err.isNil v2.2) fun v102 =>
   if v102 = true then
    some false
   else
    (jobs_Jobs_Push ({ c3 with down_l := [], up_l := [] } : jobs_Jobs) (⟨([97#8] : List (BitVec 8)), (1 : Int), (1 : Int), (0 : Int), ([] : List (BitVec 8))⟩ : api_Entry)).bind fun v105 =>
    (jobs_Jobs_Push v105.2 (⟨([98#8] : List (BitVec 8)), (1 : Int), (1 : Int), (0 : Int), ([] : List (BitVec 8))⟩ : api_Entry)).bind fun v108 =>
    (jobs_Jobs_Push v108.2 (⟨([99#8] : List (BitVec 8)), (1 : Int), (1 : Int), (0 : Int), ([] : List (BitVec 8))⟩ : api_Entry)).bind fun v111 =>
    (jobs_Jobs_Push v111.2 (⟨([97#8] : List (BitVec 8)), (2 : Int), (2 : Int), (0 : Int), ([] : List (BitVec 8))⟩ : api_Entry)).bind fun v114 =>
    (jobs_Jobs_Pop v114.2).bind fun v117 =>
    (jobs_Jobs_Find v117.2.2 ([97#8] : List (BitVec 8))).bind fun v123 =>
    (jobs_Jobs_Drop v117.2.2 ([97#8] : List (BitVec 8))).bind fun v128 =>
    (trouble_Of v18.2).bind fun v134 =>
    lt (v134 == (2 : Int)) fun v136 =>
    if v136 = true then
     if v105.1 = true then
      if v108.1 = true then
       lt (!v111.1) fun v141 =>
       if v141 = true then
        if v114.1 = true then
         if v117.2.1 = true then
          lt (((v117.1 : api_Entry).Key) == ([98#8] : List (BitVec 8))) fun v146 =>
          if v146 = true then
           if v123.2 = true then
            lt (((v123.1 : api_Entry).Version) == (2 : Int)) fun v150 =>
            if v150 = true then
             if v128.2.1 = true then
              lt (((v128.1 : api_Entry).Version) == (2 : Int)) fun v154 =>
              if v154 = true then
               (jobs_Jobs_Want v128.2.2 ([107#8] : List (BitVec 8))).bind fun v157 =>
               if v157.1 = true then
                (jobs_Jobs_Want v157.2 ([107#8] : List (BitVec 8))).bind fun v161 =>
                if v161.1 = true then
                 (jobs_Jobs_Up v161.2).bind fun v165 =>
                 lt (((v165).length : Int)) fun v167 =>
                 lt (v167 == (1 : Int)) fun v169 =>
                 if v169 = true then
                  (jobs_Jobs_Down v161.2).bind fun v172 =>
                  lt (((v172).length : Int)) fun v174 =>
                  lt (v174 == (0 : Int)) fun v176 =>
                  some v176
                 else
                  some false
                else
                 some false
               else
                some false
              else
               some false
             else
              some false
            else
             some false
           else
            some false
          else
           some false
         else
          some false
        else
         some false
       else
        some false
      else
       some false
     else
      some false
    else
     some false
  )
 )
noncomputable def R19_New (x0 : Int) : Option (R19_Jobs × Int) :=
 (
  lt (decide (x0 < (0 : Int))) fun v8 =>
  if v8 = true then
   some true
  else
   lt (decide (x0 > (64 : Int))) fun v11 =>
   some v11
 : Option (Bool)).bind fun s3 =>
  if s3 = true then
   some (((⟨(0 : Int), ([] : List api_Entry), ([] : List (List (BitVec 8)))⟩ : R19_Jobs) : R19_Jobs), (2 : Int))
  else
   some (((⟨x0, ([] : List api_Entry), ([] : List (List (BitVec 8)))⟩ : R19_Jobs) : R19_Jobs), (0 : Int))
noncomputable def L19_JobsOnce_b0 (x1 : List L19_Op) (x2 : api_Entry) (v25 : Int) (c56 : Int) (c57 : R19_Jobs) (c58 : jobs_Jobs) : Option ((Int × R19_Jobs × jobs_Jobs) ⊕ (R19_Jobs × jobs_Jobs)) :=
 lt (((x1).length : Int)) fun v69 =>
 lt (decide (c56 < v69)) fun v71 =>
 if v71 = true then
  (ix x1 c56).bind fun v74 =>
  (L19_do c58 c57 v74).bind fun v76 =>
  lt ((v76.1 : R19_Jobs)) fun c79 =>
  lt (w64 (c56 + (1 : Int))) fun v82 =>
  some (.inl (v82, c79, v76.2.2))
 else
  some (.inr (c57, c58))
noncomputable def L19_JobsOnce_l0 (x1 : List L19_Op) (x2 : api_Entry) (v25 : Int) (s : Int × R19_Jobs × jobs_Jobs) : Option (R19_Jobs × jobs_Jobs) := loopO (fun s => L19_JobsOnce_b0 x1 x2 v25 s.1 s.2.1 s.2.2) s
noncomputable def L19_JobsOnce_b1 (s66 : R19_Jobs × jobs_Jobs) (v85 : Bool × jobs_Jobs) (v88 : List api_Entry) (c128 : Int) : Option ((Int) ⊕ (Unit ⊕ (Bool))) :=
 lt (((v88).length : Int)) fun v139 =>
 lt (decide (c128 < v139)) fun v141 =>
 if v141 = true then
  (ix v88 c128).bind fun v144 =>
  (R06_Find v88 v144.Key).bind fun v146 =>
  lt (v146 != c128) fun v148 =>
  if v148 = true then
   some (.inr (.inr false))
  else
   lt (w64 (c128 + (1 : Int))) fun v152 =>
   some (.inl v152)
 else
  some (.inr (.inl ()))
noncomputable def L19_JobsOnce_l1 (s66 : R19_Jobs × jobs_Jobs) (v85 : Bool × jobs_Jobs) (v88 : List api_Entry) (s : Int) : Option (Unit ⊕ (Bool)) := loopO (fun s => L19_JobsOnce_b1 s66 v85 v88 s) s
noncomputable def L19_JobsOnce_b2 (s66 : R19_Jobs × jobs_Jobs) (v88 : List api_Entry) (c154 : Int) (c155 : jobs_Jobs) : Option ((Int × jobs_Jobs) ⊕ (jobs_Jobs ⊕ (Bool))) :=
 lt (((v88).length : Int)) fun v166 =>
 lt (decide (c154 < v166)) fun v168 =>
 if v168 = true then
  (jobs_Jobs_Pop c155).bind fun v171 =>
  (
   lt (!v171.2.1) fun v181 =>
   if v181 = true then
    some true
   else
    (ix v88 c154).bind fun v184 =>
    (R06_Same (v171.1 : api_Entry) v184).bind fun v186 =>
    lt (!v186) fun v188 =>
    some v188
  : Option (Bool)).bind fun s176 =>
   if s176 = true then
    some (.inr (.inr false))
   else
    lt (w64 (c154 + (1 : Int))) fun v193 =>
    some (.inl (v193, v171.2.2))
 else
  some (.inr (.inl c155))
noncomputable def L19_JobsOnce_l2 (s66 : R19_Jobs × jobs_Jobs) (v88 : List api_Entry) (s : Int × jobs_Jobs) : Option (jobs_Jobs ⊕ (Bool)) := loopO (fun s => L19_JobsOnce_b2 s66 v88 s.1 s.2) s
noncomputable def L19_JobsOnce (x0 : BitVec 8) (x1 : List L19_Op) (x2 : api_Entry) : Option (Bool) :=
 (
  (L19_light x1).bind fun v6 =>
  lt (!v6) fun v8 =>
  if v8 = true then
   some true
  else
   lt (([x2] : List api_Entry)) fun v11 =>
   (L06_Light v11).bind fun v13 =>
   lt (decide (v13 > (0 : Int))) fun v15 =>
   some v15
 : Option (Bool)).bind fun s1 =>
  if s1 = true then
   (L19_works).bind fun v19 =>
   some v19
  else
   lt ((BitVec.toNat x0 : Int)) fun v21 =>
   lt (Int.tmod v21 (20 : Int)) fun v23 =>
   lt (w64 ((1 : Int) + v23)) fun v25 =>
   (jobs_New v25).bind fun v27 =>
   Option.elim v27.1 (
    (
     lt (!Err.isNil v27.2) fun v37 =>
     if v37 = true then
      some ()
     else
      some ()
    : Option (Unit)).bind fun s32 =>
     some false
   ) (fun c28 =>
    (
     lt (!Err.isNil v27.2) fun v47 =>
     if v47 = true then
      some true
     else
      some false
    : Option (Bool)).bind fun s42 =>
     if s42 = true then
      some false
     else
      (R19_New v25).bind fun v52 =>
      (L19_JobsOnce_l0 x1 x2 v25 ((0 : Int), (v52.1 : R19_Jobs), ({ c28 with down_l := [], up_l := [] } : jobs_Jobs))).bind fun s66 =>
       (jobs_Jobs_Push s66.2 x2).bind fun v85 =>
       (jobs_Jobs_Down v85.2).bind fun v88 =>
       (jobs_Jobs_Up v85.2).bind fun v90 =>
       (
        lt (((v88).length : Int)) fun v96 =>
        lt (decide (v96 > v25)) fun v98 =>
        if v98 = true then
         some true
        else
         lt (((v90).length : Int)) fun v101 =>
         lt (decide (v101 > v25)) fun v103 =>
         if v103 = true then
          some true
         else
          if v85.1 = true then
           lt (((v88).length : Int)) fun v107 =>
           lt (v107 == (0 : Int)) fun v109 =>
           if v109 = true then
            some true
           else
            lt (((v88).length : Int)) fun v112 =>
            lt (w64 (v112 - (1 : Int))) fun v114 =>
            (ix v88 v114).bind fun v116 =>
            (R06_Same v116 x2).bind fun v118 =>
            lt (!v118) fun v120 =>
            if v120 = true then
             some true
            else
             some false
          else
           (R06_Find v88 x2.Key).bind fun v123 =>
           lt (decide (v123 ≥ (0 : Int))) fun v125 =>
           some v125
       : Option (Bool)).bind fun s91 =>
        if s91 = true then
         some false
        else
         (L19_JobsOnce_l1 s66 v85 v88 (0 : Int)).bind fun o129 =>
          Sum.elim (fun s136 : Unit =>
           (L19_JobsOnce_l2 s66 v88 ((0 : Int), v85.2)).bind fun o156 =>
            Sum.elim (fun s163 : jobs_Jobs =>
             (jobs_Jobs_Pop s163).bind fun v196 =>
             lt (!v196.2.1) fun v202 =>
             if v202 = true then
              (L19_works).bind fun v205 =>
              some v205
             else
              some false
             ) (fun y => some y) o156
           ) (fun y => some y) o129
   )
end Go.Proofs.YtmgjdbbggajljaaDoor
namespace Go.Proofs.YtmgjdbbggajljaaDoor
open Go.RowKit Go.Extern.Stop Go.Stop Go.Extern
theorem Tryd.valueOf27 (t : Addr) (w : World) : (ReflectliteValue.unpack (.iface 70 (.pointer (some t)))).run Tryd.prog w
    = .ok (.agg #[.pointer (some ⟨1, 70, none⟩), .pointer (some ⟨w.heap.size, 0, none⟩), .int .u64 150]) (w.alloc (.cells #[.pointer (some t)] 70)) := by kernel_rfl
theorem Tryd.type27 (a : Addr) (w : World) : (ReflectliteValue.methodAny (ReflectliteValue.valueError "reflectlite.Value.Type" 0) (fun t _ _ _ => ReflectliteType.toType t) #[.agg #[.pointer (some ⟨1, 70, none⟩), .pointer (some a), .int .u64 150]]).run Tryd.prog w
    = .ok (.iface 109 (.agg #[.pointer (some ⟨1, 70, none⟩)])) w := by kernel_rfl
theorem Tryd.methodKind (h : Value) (w : World) : (Go.method 254 109 (.agg #[h]) "Kind").run Tryd.prog w = .ok (73, h) w := by kernel_rfl
theorem Tryd.kind27 (w : World) : ((ReflectliteType.abiMethod fun t => (fun a : Nat => Value.int IntKind.u8 (a : Int)) <$> Rtype.kind t) #[.pointer (some ⟨1, 70, none⟩)]).run Tryd.prog w = .ok (.int .u8 22) w := by kernel_rfl
theorem Tryd.kind25 (w : World) : ((ReflectliteType.abiMethod fun t => (fun a : Nat => Value.int IntKind.u8 (a : Int)) <$> Rtype.kind t) #[.pointer (some ⟨1, 68, none⟩)]).run Tryd.prog w = .ok (.int .u8 22) w := by kernel_rfl

theorem rlm (z : Sem Value) (f : TypeId → Addr → Nat → Nat → Sem Value) (v : Value) :
    ReflectliteValue.method z f #[v] = (do match ← ReflectliteValue.parts v with | none => z | some (t, a, fl) => f t a fl (fl % 32)) := rfl
theorem Tryd.parts27 (a : Addr) (w : World) : (ReflectliteValue.parts (.agg #[.pointer (some ⟨1, 70, none⟩), .pointer (some a), .int .u64 150])).run Tryd.prog w = .ok (some (70, a, 150)) w := by kernel_rfl
theorem Tryd.isNil27 (a p : Addr) (W : World) (ha : W.cell? a = some (.pointer (some p))) :
    (ReflectliteValue.method (ReflectliteValue.valueError "reflectlite.Value.IsNil" 0) ReflectliteValue.isNil #[.agg #[.pointer (some ⟨1, 70, none⟩), .pointer (some a), .int .u64 150]]).run Tryd.prog W = .ok (.bool false) W := by
  rw [rlm]
  simp only [Sem.run_bind, Tryd.parts27, Result.andThen]
  simp [ReflectliteValue.isNil, loadVar, isAgg, underlying, Tryd.underlying70, ha, Result.andThen]

theorem Tryd.methodElem (h : Value) (w : World) : (Go.method 254 109 (.agg #[h]) "Elem").run Tryd.prog w = .ok (85, .agg #[h]) w := by kernel_rfl
theorem Tryd.methodImplements (h : Value) (w : World) : (Go.method 254 109 (.agg #[h]) "Implements").run Tryd.prog w = .ok (86, .agg #[h]) w := by kernel_rfl
theorem Tryd.methodAssignableTo (h : Value) (w : World) : (Go.method 254 109 (.agg #[h]) "AssignableTo").run Tryd.prog w = .ok (83, .agg #[h]) w := by kernel_rfl
theorem Tryd.elem27 (w : World) : (ReflectliteType.method ReflectliteType.elem #[.agg #[.pointer (some ⟨1, 70, none⟩)]]).run Tryd.prog w = .ok (.iface 109 (.agg #[.pointer (some ⟨1, 68, none⟩)])) w := by kernel_rfl
theorem Tryd.implements25 (w : World) : (ReflectliteType.relation "Implements" ReflectliteType.implements_ #[.agg #[.pointer (some ⟨1, 68, none⟩)], .iface 109 (.agg #[.pointer (some ⟨1, 27, none⟩)])]).run Tryd.prog w = .ok (.bool true) w := by kernel_rfl
theorem Tryd.typeOf25 (v : Value) (w : World) : (ReflectliteType.typeOf #[.iface 68 v]).run Tryd.prog w = .ok (.iface 109 (.agg #[.pointer (some ⟨1, 68, none⟩)])) w := by kernel_rfl
theorem Tryd.assignable25 (w : World) : (ReflectliteType.relation "AssignableTo" ReflectliteType.assignableTo #[.agg #[.pointer (some ⟨1, 68, none⟩)], .iface 109 (.agg #[.pointer (some ⟨1, 68, none⟩)])]).run Tryd.prog w = .ok (.bool true) w := by kernel_rfl
theorem Tryd.valueOf25 (e : Addr) (w : World) : (ReflectliteValue.unpack (.iface 68 (.pointer (some e)))).run Tryd.prog w
    = .ok (.agg #[.pointer (some ⟨1, 68, none⟩), .pointer (some ⟨w.heap.size, 0, none⟩), .int .u64 150]) (w.alloc (.cells #[.pointer (some e)] 68)) := by kernel_rfl

theorem Tryd.elemOf27 (w : World) : (Rtype.elem? 70).run Tryd.prog w = .ok (some 68) w := by kernel_rfl
theorem Tryd.mk25 (p : Addr) (w : World) : (ReflectliteValue.mk 68 p ReflectliteValue.flagAddr).run Tryd.prog w = .ok (.agg #[.pointer (some ⟨1, 68, none⟩), .pointer (some p), .int .u64 406]) w := by kernel_rfl
theorem Tryd.elemV27 (a p : Addr) (W : World) (ha : W.cell? a = some (.pointer (some p))) :
    (ReflectliteValue.method (ReflectliteValue.valueError "reflectlite.Value.Elem" 0) ReflectliteValue.elem #[.agg #[.pointer (some ⟨1, 70, none⟩), .pointer (some a), .int .u64 150]]).run Tryd.prog W
      = .ok (.agg #[.pointer (some ⟨1, 68, none⟩), .pointer (some p), .int .u64 406]) W := by
  rw [rlm]
  simp only [Sem.run_bind, Tryd.parts27, Result.andThen]
  simp [ReflectliteValue.elem, loadVar, isAgg, underlying, Tryd.underlying70, ha, Result.andThen, Tryd.elemOf27, Tryd.mk25]
theorem rls (v x : Value) : ReflectliteValue.set #[v, x] = (do
    let (some (dst, a, fl), some (src, b, _)) := (← ReflectliteValue.parts v, ← ReflectliteValue.parts x)
      | unsupported (.noEntry "extern/(internal/reflectlite.Value).Set.zeroValue")
    if fl / ReflectliteValue.flagAddr % 2 == 0 then unsupported (.noEntry "extern/(internal/reflectlite.Value).Set.unaddressable")
    let val ← loadVar src b
    if ← Rtype.directlyAssignable dst src then storeVar dst a val
    else if ← Rtype.implements dst src then
      if (← Rtype.kind src) == 20 then
        match val with
        | .nilIface => unsupported (.noEntry "extern/reflectlite: a nil value of one interface type handed on as a value of another")
        | _ => storeVar dst a val
      else storeVar dst a (.iface src val)
    else panicString ("reflectlite.Set: value of type " ++ (← Rtype.spelt src) ++ " is not assignable to type " ++ (← Rtype.spelt dst))
    pure (.tuple #[])) := rfl
theorem Tryd.parts25a (a : Addr) (w : World) : (ReflectliteValue.parts (.agg #[.pointer (some ⟨1, 68, none⟩), .pointer (some a), .int .u64 406])).run Tryd.prog w = .ok (some (68, a, 406)) w := by kernel_rfl
theorem Tryd.parts25 (a : Addr) (w : World) : (ReflectliteValue.parts (.agg #[.pointer (some ⟨1, 68, none⟩), .pointer (some a), .int .u64 150])).run Tryd.prog w = .ok (some (68, a, 150)) w := by kernel_rfl
theorem Tryd.direct25 (w : World) : (Rtype.directlyAssignable 68 68).run Tryd.prog w = .ok true w := by kernel_rfl
theorem Tryd.set25 (ta b e : Addr) (old : Value) (W : World) (hb : W.cell? b = some (.pointer (some e))) (ht : W.cell? ta = some old) (hf : W.frozen? ta = false) :
    (ReflectliteValue.set #[.agg #[.pointer (some ⟨1, 68, none⟩), .pointer (some ta), .int .u64 406], .agg #[.pointer (some ⟨1, 68, none⟩), .pointer (some b), .int .u64 150]]).run Tryd.prog W
      = .ok (.tuple #[]) (W.setCell ta (.pointer (some e))) := by
  rw [rls]
  simp only [Sem.run_bind, Tryd.parts25a, Tryd.parts25, Result.andThen]
  simp [ReflectliteValue.flagAddr, loadVar, isAgg, underlying, Tryd.underlying68, hb, Result.andThen, Tryd.direct25, storeVar, Value.cells, storeCells, Addr.add]
  rw [run_store Tryd.prog W ta _ _ (by rfl)]
  simp [ht, hf]

set_option maxHeartbeats 8000000 in
set_option maxRecDepth 100000 in
theorem as_hit (e t : Addr) (old : Value) (w : World) (hg : w.cell? ⟨0, 0, none⟩ = some (.iface 109 (.agg #[.pointer (some ⟨1, 27, none⟩)]))) (ht0 : w.cell? t = some old) (hf0 : w.frozen? t = false) :
    Calls Tryd.prog 26 #[.iface 68 (.pointer (some e)), .iface 70 (.pointer (some t))] w fun ev w' => ev = .returned (.bool true) ∧ w' = ((((w.alloc (.cells #[.pointer (some t)] 70)).alloc (.cells #[.pointer (some ⟨1, 70, none⟩), .pointer (some ⟨w.heap.size, 0, none⟩), .int .u64 150] 90)).alloc (.cells #[.pointer (some ⟨1, 70, none⟩), .pointer (some ⟨w.heap.size, 0, none⟩), .int .u64 150] 90)).alloc (.cells #[.pointer (some e)] 68)).setCell t (.pointer (some e)) := by
  have h6 := @run_callFunc_extern Tryd.prog 43 _ (fun args => ReflectliteValue.unpack (args.getD 0 (.tuple #[]))) Tryd.func43 (by kernel_rfl) (by kernel_rfl) (by kernel_rfl) (by kernel_rfl)
  have h7 := @run_callFunc_extern Tryd.prog 44 _ (ReflectliteValue.methodAny (ReflectliteValue.valueError "reflectlite.Value.Type" 0) (fun t _ _ _ => ReflectliteType.toType t)) Tryd.func44 (by kernel_rfl) (by kernel_rfl) (by kernel_rfl) (by kernel_rfl)
  have h8 := @run_callFunc_extern Tryd.prog 45 _ (ReflectliteValue.method (ReflectliteValue.valueError "reflectlite.Value.IsNil" 0) ReflectliteValue.isNil) Tryd.func45 (by kernel_rfl) (by kernel_rfl) (by kernel_rfl) (by kernel_rfl)
  have h27 := @run_callFunc_extern Tryd.prog 73 _ (ReflectliteType.abiMethod fun t => do pure (.int .u8 (← Rtype.kind t))) Tryd.func73 (by kernel_rfl) (by kernel_rfl) (by kernel_rfl) (by kernel_rfl)
  have h37 := @run_callFunc_extern Tryd.prog 85 _ (ReflectliteType.method ReflectliteType.elem) Tryd.func85 (by kernel_rfl) (by kernel_rfl) (by kernel_rfl) (by kernel_rfl)
  have h38 := @run_callFunc_extern Tryd.prog 86 _ (ReflectliteType.relation "Implements" ReflectliteType.implements_) Tryd.func86 (by kernel_rfl) (by kernel_rfl) (by kernel_rfl) (by kernel_rfl)
  have h10 := @run_callFunc_extern Tryd.prog 56 _ ReflectliteType.typeOf Tryd.func56 (by kernel_rfl) (by kernel_rfl) (by kernel_rfl) (by kernel_rfl)
  have h35 := @run_callFunc_extern Tryd.prog 83 _ (ReflectliteType.relation "AssignableTo" ReflectliteType.assignableTo) Tryd.func83 (by kernel_rfl) (by kernel_rfl) (by kernel_rfl) (by kernel_rfl)
  have h11 := @run_callFunc_extern Tryd.prog 57 _ (ReflectliteValue.method (ReflectliteValue.valueError "reflectlite.Value.Elem" 0) ReflectliteValue.elem) Tryd.func57 (by kernel_rfl) (by kernel_rfl) (by kernel_rfl) (by kernel_rfl)
  have h12 := @run_callFunc_extern Tryd.prog 58 _ ReflectliteValue.set Tryd.func58 (by kernel_rfl) (by kernel_rfl) (by kernel_rfl) (by kernel_rfl)
  have tO := Tryd.typeOf25
  have mA := Tryd.methodAssignableTo
  have a25 := Tryd.assignable25
  have v25 := Tryd.valueOf25
  have f6 := Tryd.valueOf27
  have f7 := Tryd.type27
  have mK := Tryd.methodKind
  have mE := Tryd.methodElem
  have mI := Tryd.methodImplements
  have k27 := Tryd.kind27
  have k25 := Tryd.kind25
  have e27 := Tryd.elem27
  have i25 := Tryd.implements25
  have n8 := Tryd.isNil27 ⟨w.heap.size, 0, none⟩ t ((w.alloc (.cells #[.pointer (some t)] 70)).alloc (.cells #[.pointer (some ⟨1, 70, none⟩), .pointer (some ⟨w.heap.size, 0, none⟩), .int .u64 150] 90)) (by simp)
  have hlt : 0 < w.heap.size := by
    rcases Nat.eq_zero_or_pos w.heap.size with h0 | h
    · simp [World.cell?, h0] at hg
    · exact h
  have hg2 : ((w.alloc (.cells #[.pointer (some t)] 70)).alloc (.cells #[.pointer (some ⟨1, 70, none⟩), .pointer (some ⟨w.heap.size, 0, none⟩), .int .u64 150] 90)).cell? ⟨0, 0, none⟩ = some (.iface 109 (.agg #[.pointer (some ⟨1, 27, none⟩)])) := by
    rw [World.cell?_alloc_lt _ _ ⟨0, 0, none⟩ (by simp), World.cell?_alloc_lt _ _ ⟨0, 0, none⟩ hlt]; exact hg
  have htl : t.block < w.heap.size := by
    rcases Nat.lt_or_ge t.block w.heap.size with h | h
    · exact h
    · simp [World.cell?, Array.getElem?_eq_none h] at ht0
  have el := Tryd.elemV27 ⟨w.heap.size, 0, none⟩ t (((w.alloc (.cells #[.pointer (some t)] 70)).alloc (.cells #[.pointer (some ⟨1, 70, none⟩), .pointer (some ⟨w.heap.size, 0, none⟩), .int .u64 150] 90)).alloc (.cells #[.pointer (some ⟨1, 70, none⟩), .pointer (some ⟨w.heap.size, 0, none⟩), .int .u64 150] 90)) (by rw [World.cell?_alloc_lt _ _ ⟨w.heap.size, 0, none⟩ (by simp; omega)]; simp)
  have st := Tryd.set25 t ⟨w.heap.size + 1 + 1 + 1, 0, none⟩ e old ((((w.alloc (.cells #[.pointer (some t)] 70)).alloc (.cells #[.pointer (some ⟨1, 70, none⟩), .pointer (some ⟨w.heap.size, 0, none⟩), .int .u64 150] 90)).alloc (.cells #[.pointer (some ⟨1, 70, none⟩), .pointer (some ⟨w.heap.size, 0, none⟩), .int .u64 150] 90)).alloc (.cells #[.pointer (some e)] 68))
    (by rw [World.cell?_alloc_at _ _ _ _ (by simp)]; rfl)
    (by rw [World.cell?_alloc_lt _ _ t (by simp; omega), World.cell?_alloc_lt _ _ t (by simp; omega), World.cell?_alloc_lt _ _ t (by simp; omega), World.cell?_alloc_lt _ _ t htl]; exact ht0)
    (by rw [World.frozen?_alloc_old _ _ t (by simp; omega), World.frozen?_alloc_old _ _ t (by simp; omega), World.frozen?_alloc_old _ _ t (by simp; omega), World.frozen?_alloc_old _ _ t (Nat.ne_of_lt htl)]; exact hf0)
  go_enter Tryd.func26, Tryd.ntmps26
  go_wp2
  refine wp_loop_rounds 1 ?_
  rw [rounds_succ]
  go_wp2
  go_ret
  exact ⟨rfl, rfl⟩
end Go.Proofs.YtmgjdbbggajljaaDoor
namespace Go.Proofs.YtmgjdbbggajljaaDoor
open Go Go.Va
set_option linter.unusedVariables false
set_option linter.unusedSimpArgs false
def gls : List (Addr × Value) := [(⟨0, 0, none⟩, .iface 109 (.agg #[.pointer (some ⟨1, 27, none⟩)]))]
section
variable {P : Program} {Ty : TypeId → Option TI} {fr : Nat → AV} {d : Option Tmp} {t : TypeId} {pos : String} {af : Array Edge} {g : Option (Nat × Bool)} {ox oy : Operand} {T T' : TypeId}
theorem o_err_neq (hT : TyOk P Ty) {x : Err} (ht : tdOf Ty T = .iface) (hx : aeval fr ox = eErr x) (hy : oy = .const .nilIface) : OpP P ⟨d, .binOp .neq T ox oy T', t, pos, af, g⟩ fr (eB (!x.isNil)) := by
  subst hy
  refine OpP.of_aop' hT (mu := false) rfl (fun τ => ?_)
  have h2 : aeval fr (.const .nilIface) = .nili := rfl
  simp only [aop, hx, h2]
  cases x with
  | nil => simp [eErr, abin', abin, ht, isC, aeq, pairO, Err.isNil, eB]
  | fault o a c u => simp [eErr, abin', abin, ht, isC, aeq, pairO, Err.isNil, eB]
end
def Err.ptr : Err → AV
  | .nil => .nilp
  | .fault o a c u => .fptr [eS o, eI a, eI c, eErr u] 0
theorem as_ok {x : Err} (hx : x.isNil = false) {σ : St} {id : Nat} (ho : σ.objs[id]? = some [.nilp]) (hg : σ.gl = gls) : ACall Tryd.prog 26 [eErr x, .iface 70 (.ref id 0)] σ (fun a τ => a = eB true ∧ τ = σ.puts [(id, [x.ptr])]) := by
  cases x with
  | nil => cases hx
  | fault o a c u =>
    refine ⟨⟨_, Tryd.func26, by decide, rfl⟩, fun w0 G w vs hI hr => ?_⟩
    obtain ⟨v0, h0, r0⟩ := hr.get (i := 0) rfl
    obtain ⟨v1, h1, r1⟩ := hr.get (i := 1) rfl
    have hvs : vs = #[v0, v1] := by
      obtain ⟨l⟩ := vs
      have hl := hr.len
      simp only [List.length_cons, List.length_nil] at hl h0 h1
      match l, hl, h0, h1 with
      | [x, y], _, h0, h1 => simp at h0 h1; subst h0; subst h1; rfl
    subst hvs
    simp only [eErr] at r0
    cases r0 with | iface _ v0 _ r0 =>
    cases r1 with | iface _ v1 _ r1 =>
    cases r0 with | fptr b o' off _ val hf hv =>
    cases r1 with | ref _ _ b1 hl =>
    obtain ⟨b2, T, cs, e1, e2, e3, e4, e5, e6⟩ := hI.loc id _ ho (by simp) rfl
    rw [hl] at e1
    cases e1
    obtain ⟨u1, hu1, ru1⟩ := e4.rel.get (i := 0) rfl
    have hcs : cs[0]? = some (.pointer none) := by
      cases ru1
      rw [List.getElem?_take] at hu1
      simpa using hu1
    have hsz : 1 ≤ cs.size := e4.le
    have hglob := hI.below
    have hg0 : w0.cell? ⟨0, 0, none⟩ = some (.iface 109 (.agg #[.pointer (some ⟨1, 27, none⟩)])) := hI.gl _ (by rw [hg]; exact List.mem_singleton.2 rfl)
    have hg1 : w.cell? ⟨0, 0, none⟩ = some (.iface 109 (.agg #[.pointer (some ⟨1, 27, none⟩)])) := by
      have hb := World.block_lt_of_cell? w0 _ hg0
      simp only [World.cell?] at hg0 ⊢
      rw [hI.below.block _ hb]; exact hg0
    have hc : w.cell? ⟨b1, 0, none⟩ = some (.pointer none) := by simp [World.cell?, e3, hcs]
    have hfz : w.frozen? ⟨b1, 0, none⟩ = false := by simp [World.frozen?, e3]
    refine (as_hit ⟨b, o' + 0, none⟩ ⟨b1, 0, none⟩ (.pointer none) w hg1 hc hfz).mono ?_
    rintro e w' ⟨rfl, rfl⟩
    have k1 := hI.alloc_fz #[.pointer (some ⟨b1, 0, none⟩)] 70 (by simp [Value.oneCell']) (0, 0)
    have k2 := k1.2.alloc_fz #[.pointer (some ⟨1, 70, none⟩), .pointer (some ⟨w.heap.size, 0, none⟩), .int .u64 150] 90 (by simp [Value.oneCell']) (0, 0)
    have k3 := k2.2.alloc_fz #[.pointer (some ⟨1, 70, none⟩), .pointer (some ⟨w.heap.size, 0, none⟩), .int .u64 150] 90 (by simp [Value.oneCell']) (0, 0)
    have k4 := k3.2.alloc_fz #[.pointer (some ⟨b, o' + 0, none⟩)] 68 (by simp [Value.oneCell']) (0, 0)
    have hle := k1.1.trans (k2.1.trans (k3.1.trans k4.1))
    have hb1 : b1 < w.heap.size := (Array.getElem?_eq_some_iff.1 e3).1
    have k5 := k4.2.write (id := id) (off := 0) (news := [.pointer (some ⟨b, o' + 0, none⟩)]) (nc := [.fptr [eS o, eI a, eI c, eErr u] 0]) ho (hle.loc _ _ hl) (by simp) rfl ((RelL.nil _).cons (.fptr b o' 0 _ val (fun j a h1 => hle.fz _ _ _ (hf j a h1)) (fun j a h1 => (hv j a h1).mono hle))) (by simp [Value.oneCell']) (by simp) (by rw [hle.bsz _ _ hl, ← e6]; simpa using hsz)
    refine ⟨.bool true, eB true, _, _, rfl, hle, ?_, .bool true, rfl, rfl⟩
    simp only [World.setCells, List.take_zero, List.nil_append, List.length_cons, List.length_nil, List.drop_succ_cons, List.drop_zero, List.drop_nil, List.append_nil] at k5
    exact k5
end Go.Proofs.YtmgjdbbggajljaaDoor
namespace Go.Proofs.YtmgjdbbggajljaaDoor
open Go Go.Va
set_option linter.unusedVariables false
set_option linter.unusedSimpArgs false
set_option maxRecDepth 20000
theorem item_Copy_ok {x0 : api_Entry} {r : api_Entry} (H : item_Copy x0 = some r) (σ : St)  : ACall Tryd.prog 34 [(e_api_Entry x0)] σ (fun a τ => a = e_api_Entry r ∧ τ = σ) := by
 unfold item_Copy at H
 refine ACall.pure (acall_start tk Tryd.func34 (by decide) rfl (nb rfl) ?_)
 have hH := Holds.init σ
 refine sr rfl ?_
 refine wpo_a (av := fun id => .ref id 0) rfl rfl rfl (h_box tk hH rfl wr (b := (e_api_Entry x0)) (enc42.flat _) (c_api_Entry x0) rfl) fun id1 τ ⟨hH, n2⟩ => ?_
 refine wpo_a (av := fun id => .ref id 0) rfl rfl rfl (h_alloc tk hH ty42 [(eS z_api_Entry.Key), (eI z_api_Entry.Version), (eI z_api_Entry.AsOf), (eI z_api_Entry.Ends), AV.nils] rfl) fun id3 τ ⟨hH, n4⟩ => ?_
 refine wpo_nil (sr rfl (mc tk (eF 1 (@eU .u8 8) ([] : List (BitVec 8))) rfl rfl (fun _ => rfl) (mc tk (.ref id1 4) rfl rfl (fun _ => rfl) (wpo_rd (a := ((eL 1 (@eU .u8 8)) x0.Value)) rfl rfl rfl (h_ld tk hH 1 rfl rfl rfl) ?_))))
 obtain ⟨v6, hv7, H5⟩ := ob H
 refine wpo_a (av := fun t => eT t 1 (@eU .u8 8) v6) rfl rfl rfl (h_app0 tk hH hv7 td40 ty5 rfl (by decide) (.inr rfl) (src_l td40 rfl)) fun tk8 τ hH => ?_
 refine mc tk (.ref id1 4) rfl rfl (fun _ => rfl) ?_
 obtain ⟨c10, hc11, H9⟩ := lt_ex H5
 refine wpo_z rfl rfl (h_st (y := (eT tk8 1 (@eU .u8 8) v6)) tk hH 1 rfl ty40 (by simp) rfl rfl wk_no (b := ((eL 1 (@eU .u8 8)) v6)) rfl rfl (nb rfl) (c_api_Entry c10) (by rw [← hc11]; rfl)) fun τ hH => ?_
 refine wpo_nil (sr rfl (wpo_rd (a := (e_api_Entry c10)) rfl rfl rfl (h_ld tk hH 1 rfl rfl rfl) ?_))
 refine wpo_z rfl rfl (h_st tk hH 0 rfl ty42 (by simp) rfl rfl wr (b := (e_api_Entry c10)) (enc42.flat _) rfl (nb rfl) (c_api_Entry (c10 : api_Entry)) rfl) fun τ hH => ?_
 refine wpo_nil (awp_ret ?_)
 obtain rfl := oi H9
 exact ⟨_, (e_api_Entry (c10 : api_Entry)), (ares_1 (ares_cell hH 0 rfl rfl rfl)), wr, .of_eq (enc42.cut _ _ _), ((hH.noT.drop n4).drop n2)⟩
theorem jobs_New_1_ok {x0 : api_Entry} {r : (List (BitVec 8))} (H : jobs_New_1 x0 = some r) (σ : St)  : ACall Tryd.prog 24 [(e_api_Entry x0)] σ (fun a τ => a = eS r ∧ τ = σ) := by
 unfold jobs_New_1 at H
 refine ACall.pure (acall_start tk Tryd.func24 (by decide) rfl (nb rfl) ?_)
 have hH := Holds.init σ
 refine sr rfl (m_ (.fptr (c_api_Entry x0) 0) rfl (o_boxf tk rfl wr (b := (e_api_Entry x0)) (enc42.flat _)) (ma tk (eS ([] : List (BitVec 8))) rfl rfl (wpo_nil (sr rfl (mc tk (.fptr (c_api_Entry x0) 0) rfl rfl (fun _ => rfl) (m_ (eS x0.Key) rfl (o_ld tk rfl rfl) (ma tk (eS x0.Key) rfl rfl (wpo_nil ?_))))))))
 refine awp_ret ?_
 obtain rfl := oi H
 exact ⟨_, (eS x0.Key), rfl, wr, .of_eq ((enc_s td9 sz9).cut _ _ _), hH.noT⟩
theorem jobs_Queue_api_Entry_find_1_c_ok {x0 : api_Entry} {x1 : jobs_Jobs} {x2 : List (BitVec 8)} {r : Bool} (H : jobs_Queue_api_Entry_find_1_c x0 x1 x2 = some r) (σ : St) {p1 : Nat} {t_p1_down_l t_p1_up_l : Nat} (h1 : σ.objs[p1]? = some [(eI x1.down_limit), (.fn (.func 24) [] []), (eT t_p1_down_l 5 e_api_Entry x1.down_l), (eI x1.up_limit), (.fn (.func 25) [] []), (eT t_p1_up_l 1 eS x1.up_l)]) (hd : [p1].Pairwise fun a b => a ≠ b) : ACall Tryd.prog 53 [(e_api_Entry x0), (.fptr [(.ref p1 0)] 0), (.fptr [eS x2] 0)] σ (fun a τ => a = eB r ∧ τ = σ) := by
 unfold jobs_Queue_api_Entry_find_1_c at H
 refine ACall.pure (acall_start tk Tryd.func53 (by decide) rfl (nb rfl) ?_)
 have hH := Holds.brings (σ := σ) [(p1, [(eI x1.down_limit), (.fn (.func 24) [] []), (eT t_p1_down_l 5 e_api_Entry x1.down_l), (eI x1.up_limit), (.fn (.func 25) [] []), (eT t_p1_up_l 1 eS x1.up_l)])] (by simp only [List.mem_cons, List.not_mem_nil, or_false]; rintro _ (rfl) <;> assumption) hd
 refine sr rfl (m_ (.fptr (c_api_Entry x0) 0) rfl (o_boxf tk rfl wr (b := (e_api_Entry x0)) (enc42.flat _)) (ma tk (eB false) rfl rfl (wpo_nil (awp_seq ?_))))
 refine awp_drawS mixed [] rfl (by decide +kernel) rfl rfl ?_
 refine wpdS_mv (a := (.ref p1 0)) rfl rfl rfl (o_ld tk rfl rfl) (wpdS_mv (a := (.ref p1 0)) rfl rfl rfl (o_c tk false rfl (fun _ => rfl)) (wpdS_mv (a := (.ref p1 1)) rfl rfl rfl (o_c tk false rfl (fun _ => rfl)) (wpdS_rd (a := (.fn (.func 24) [] [])) rfl (by decide +kernel) rfl rfl (h_ld tk hH 0 rfl rfl rfl) (wpdS_mv (a := (e_api_Entry x0)) rfl rfl rfl (o_ld tk rfl rfl) ?_))))
 refine wpdS_bd H eS rfl rfl rfl (fun v2 hv => OpP.of_call rfl rfl (.cons wr .nil) (jobs_New_1_ok hv)) fun v2 hv2 H1 => ?_
 refine wpdS_mv (a := (eS x2)) rfl rfl rfl (o_ld tk rfl rfl) ?_
 refine wpdS_lt H1 eB rfl rfl rfl (o_eql_s tk rfl rfl) fun v4 H3 => ?_
 refine wpdS_mv (a := (eB v4)) rfl rfl rfl (o_as tk rfl (Wk.refl _)) (wpdS_nil (awp_ret ?_))
 obtain rfl := oi H3
 exact ⟨_, (eB v4), rfl, wr, .of_eq ((enc_b td4 sz4).cut _ _ _), (hH.noT.unbring h1)⟩
theorem slices_IndexFunc_api_Entry_api_Entry_jobs_Queue_api_Entry_find_1_c_ok {x0 : List api_Entry} {x1 : jobs_Jobs} {x2 : List (BitVec 8)} {r : Int} (H : slices_IndexFunc_api_Entry_api_Entry_jobs_Queue_api_Entry_find_1_c x0 x1 x2 = some r) (σ : St) {p1 : Nat} {t_p1_down_l t_p1_up_l : Nat} (h1 : σ.objs[p1]? = some [(eI x1.down_limit), (.fn (.func 24) [] []), (eT t_p1_down_l 5 e_api_Entry x1.down_l), (eI x1.up_limit), (.fn (.func 25) [] []), (eT t_p1_up_l 1 eS x1.up_l)]) (hd : [p1].Pairwise fun a b => a ≠ b) : ACall Tryd.prog 52 [((eL 5 e_api_Entry) x0), (.fn (.func 53) [] [.fptr [(.ref p1 0)] 0, .fptr [eS x2] 0])] σ (fun a τ => a = eI r ∧ τ = σ) := by
 unfold slices_IndexFunc_api_Entry_api_Entry_jobs_Queue_api_Entry_find_1_c at H
 refine ACall.pure (acall_start tk Tryd.func52 (by decide) rfl (nb rfl) ?_)
 have hH := Holds.brings (σ := σ) [(p1, [(eI x1.down_limit), (.fn (.func 24) [] []), (eT t_p1_down_l 5 e_api_Entry x1.down_l), (eI x1.up_limit), (.fn (.func 25) [] []), (eT t_p1_up_l 1 eS x1.up_l)])] (by simp only [List.mem_cons, List.not_mem_nil, or_false]; rintro _ (rfl) <;> assumption) hd
 refine sr rfl (ma tk (eI (0 : Int)) rfl rfl (wpo_nil (awp_seq (sr rfl (mm tk ((eL 5 e_api_Entry) x0) rfl rfl ?_)))))
 refine l_ H eI rfl (o_len tk td30 rfl) fun v2 H1 => ?_
 refine mm tk (eI (0 : Int)) rfl rfl (wpo_nil (awp_block ?_))
 obtain ⟨o4, hs5, hj6⟩ := ob H1
 refine awp_cutx 0 (fun fr τ => ∃ s11 : Unit, o4 = .inl s11 ∧ WkF fr (fm []) ∧ Holds σ [(p1, [(eI x1.down_limit), (.fn (.func 24) [] []), (eT t_p1_down_l 5 e_api_Entry x1.down_l), (eI x1.up_limit), (.fn (.func 25) [] []), (eT t_p1_up_l 1 eS x1.up_l)])] [] τ) ?_ ?_
 ·rintro fr τ ⟨s11, rfl, hfr, hH⟩
  have H24 := hj6
  simp only [Sum.elim_inl] at H24
  refine AWP.fm [] hfr ?_
  refine sr rfl (ma tk (eI (-1 : Int)) rfl rfl (wpo_nil (awp_ret ?_)))
  obtain rfl := oi H24
  exact ⟨_, (eI (-1 : Int)), rfl, wr, .of_eq ((enc_i64 td3 sz3).cut _ _ _), (hH.noT.unbring h1)⟩
 ·refine awp_loopO (body := fun s => slices_IndexFunc_api_Entry_api_Entry_jobs_Queue_api_Entry_find_1_c_b0 x0 x1 x2 v2 s) hs5 (fun (s : Int) fr τ => WkF fr (fm [(0, ((eL 5 e_api_Entry) x0)), (1, (.fn (.func 53) [] [(.fptr [(.ref p1 0)] 0), (.fptr [eS x2] 0)])), (7, (eI v2)), (8, (eI s))]) ∧ Holds σ [(p1, [(eI x1.down_limit), (.fn (.func 24) [] []), (eT t_p1_down_l 5 e_api_Entry x1.down_l), (eI x1.up_limit), (.fn (.func 25) [] []), (eT t_p1_up_l 1 eS x1.up_l)])] [] τ) ⟨(wc (wc (wc (wc (wkf_nil _))))), hH⟩ ?_
  rintro c3 fr τ y7 ⟨hfr, hH⟩ hb9 hy10
  have H12 : slices_IndexFunc_api_Entry_api_Entry_jobs_Queue_api_Entry_find_1_c_b0 x0 x1 x2 v2 c3 = some y7 := hb9
  unfold slices_IndexFunc_api_Entry_api_Entry_jobs_Queue_api_Entry_find_1_c_b0 at H12
  refine AWP.fm [(0, ((eL 5 e_api_Entry) x0)), (1, (.fn (.func 53) [] [(.fptr [(.ref p1 0)] 0), (.fptr [eS x2] 0)])), (7, (eI v2)), (8, (eI c3))] hfr ?_
  have hH : Holds σ [(p1, [(eI x1.down_limit), (.fn (.func 24) [] []), (eT t_p1_down_l 5 e_api_Entry x1.down_l), (eI x1.up_limit), (.fn (.func 25) [] []), (eT t_p1_up_l 1 eS x1.up_l)])] [] τ := hH
  refine sr rfl ?_
  refine l_ H12 eB rfl (o_ar tk rfl rfl rfl) fun v14 H13 => ?_
  refine wpo_nil (awp_seq ?_)
  refine awp_if H13 rfl (fun H15 => ?_) (fun H15 => ?_)
  ·refine awp_skip (awp_seq (awp_block (sr rfl (mm tk (eI c3) rfl rfl (ma tk (eI c3) rfl rfl (wpo_nil (sr rfl (mm tk (.fn (.func 53) [] [(.fptr [(.ref p1 0)] 0), (.fptr [eS x2] 0)]) rfl rfl ?_))))))))
   refine mm tk ((eL 5 e_api_Entry) x0) rfl rfl (mm tk (eI c3) rfl rfl ?_)
   refine b_ H15 (fun y => .fptr (e_api_Entry y).cells 0) rfl (fun v17 hv => o_ixa tk hv td30 enc42 rfl rfl) fun v17 hv17 H16 => ?_
   refine m_ (e_api_Entry v17) rfl (o_ld_e tk enc42 rfl rfl) ?_
   refine wpo_bdr H16 eB rfl rfl rfl (fun v19 hv => h_callr rfl rfl (.cons wr (.cons wr (.cons wr .nil))) (jobs_Queue_api_Entry_find_1_c_ok hv _ (hH.at_ 0 rfl) (hH.pw [0] rfl (by decide)))) fun v19 hv19 H18 => ?_
   refine wpo_nil ?_
   refine awp_if H18 rfl (fun H20 => ?_) (fun H20 => ?_)
   ·refine sr rfl (mm tk (eI c3) rfl rfl (ma tk (eI c3) rfl rfl (wpo_nil (awp_ret ?_))))
    have hz := hy10 _ (inj_inr H20)
    refine ⟨⟨_, inj_inr H20⟩, ?_⟩
    rw [← hz] at hj6
    have H21 := (show some _ = some _ from hj6)
    obtain rfl := oi H21
    exact ⟨_, (eI c3), rfl, wr, .of_eq ((enc_i64 td3 sz3).cut _ _ _), (hH.noT.unbring h1)⟩
   ·refine awp_skip (awp_region rfl ?_)
    refine l_ H20 eI rfl (o_ar tk rfl rfl rfl) fun v23 H22 => ?_
    refine mm tk (eI v23) rfl rfl (wpo_nil ?_)
    exact ⟨v23, inj_inl H22, (wc (wc (wc (wc (wkf_nil _))))), hH⟩
  ·refine awp_exit ?_
   have hz := hy10 _ (inj_inr H15)
   exact ⟨⟨_, inj_inr H15⟩, (), hz.symm, (wkf_nil _), hH⟩
theorem jobs_Queue_api_Entry_find_ok {x0 : jobs_Jobs} {x1 : List (BitVec 8)} {r : Int} (H : jobs_Queue_api_Entry_find x0 x1 = some r) (σ : St) {p0 : Nat} {t_p0_down_l t_p0_up_l : Nat} (h0 : σ.objs[p0]? = some [(eI x0.down_limit), (.fn (.func 24) [] []), (eT t_p0_down_l 5 e_api_Entry x0.down_l), (eI x0.up_limit), (.fn (.func 25) [] []), (eT t_p0_up_l 1 eS x0.up_l)]) (hd : [p0].Pairwise fun a b => a ≠ b) : ACall Tryd.prog 40 [(.ref p0 0), (eS x1)] σ (fun a τ => a = eI r ∧ τ = σ) := by
 unfold jobs_Queue_api_Entry_find at H
 refine ACall.pure (acall_start tk Tryd.func40 (by decide) rfl (nb rfl) ?_)
 have hH := Holds.brings (σ := σ) [(p0, [(eI x0.down_limit), (.fn (.func 24) [] []), (eT t_p0_down_l 5 e_api_Entry x0.down_l), (eI x0.up_limit), (.fn (.func 25) [] []), (eT t_p0_up_l 1 eS x0.up_l)])] (by simp only [List.mem_cons, List.not_mem_nil, or_false]; rintro _ (rfl) <;> assumption) hd
 refine sr rfl (m_ (.fptr [(.ref p0 0)] 0) rfl (o_boxf tk rfl wr (b := (.ref p0 0)) rfl) (m_ (.fptr [eS x1] 0) rfl (o_boxf tk rfl wr (b := (eS x1)) rfl) (ma tk (eI (0 : Int)) rfl rfl (wpo_nil (sr rfl (m_ (.ref p0 0) rfl (o_ld tk rfl rfl) (mc tk (.ref p0 0) rfl rfl (fun _ => rfl) (mc tk (.ref p0 2) rfl rfl (fun _ => rfl) ?_))))))))
 refine wpo_rd (a := ((eL 5 e_api_Entry) x0.down_l)) rfl rfl rfl (OpS.wkr wk_no (h_ld tk hH 0 rfl rfl rfl)) (mc tk (.fn (.func 53) [] [(.fptr [(.ref p0 0)] 0), (.fptr [eS x1] 0)]) rfl rfl (fun _ => rfl) ?_)
 refine wpo_bdr H eI rfl rfl rfl (fun v2 hv => h_callr rfl rfl (.cons wr (.cons wr .nil)) (slices_IndexFunc_api_Entry_api_Entry_jobs_Queue_api_Entry_find_1_c_ok hv _ (hH.at_ 0 rfl) (hH.pw [0] rfl (by decide)))) fun v2 hv2 H1 => ?_
 refine ma tk (eI v2) rfl rfl (wpo_nil (awp_ret ?_))
 obtain rfl := oi H1
 exact ⟨_, (eI v2), rfl, wr, .of_eq ((enc_i64 td3 sz3).cut _ _ _), (hH.noT.unbring h0)⟩
end Go.Proofs.YtmgjdbbggajljaaDoor
