/- THE ELDEST GOES: what is inserted without an error is the last one, all together have room in a page, those that went were the eldest, and all others stay in their order. (part 3 of 7) -/
import Derived.Test.YtkmlinaofbcbaaaDoorKBucketRoom2
import Derived.KernelRfl
import Derived.LaidEql
import Derived.Lib.AppendZeros
import Derived.RowKitTokens
import Derived.Stop.Asserts
import Derived.Test.YtkmlinaofbcbaaaDoorProg
import Derived.WalkKit
namespace Go.Va
open Go Go.RowKit
set_option linter.unusedVariables false
set_option linter.unusedSimpArgs false
mutual
/-- A value that speaks of no variable, and of no room. -/
def purA : AV → Bool
  | .sl .no _ es => purL es
  | .sl .full _ _ => false
  | .sl (.own _) _ _ => false
  | .agg cs => purL cs
  | .tup vs => purL vs
  | .fptr x _ => purL x
  | .iface _ v => purA v
  | .fn _ a b => purL a && purL b
  | .ref _ _ => false
  | .msl _ _ _ => false
  | .vec _ _ _ => false
  | .vc _ _ _ _ _ => false
  | .junk => true
  | .int _ _ => true
  | .bool _ => true
  | .str _ => true
  | .nilp => true
  | .nils => true
  | .nilm => true
  | .nilf => true
  | .nili => true
def purL : List AV → Bool
  | [] => true
  | a :: l => purA a && purL l
end
theorem purL_iff : ∀ {l : List AV}, purL l = true ↔ ∀ a ∈ l, purA a = true
  | [] => by simp [purL]
  | a :: l => by simp [purL, purL_iff (l := l)]
theorem purL_append (l m : List AV) : purL (l ++ m) = (purL l && purL m) := by
  induction l with
  | nil => simp [purL]
  | cons a l ih => simp [purL, ih, Bool.and_assoc]
theorem pur_cells {a x : AV} (h : purA a = true) (hx : x ∈ a.cells) : purA x = true := by
  cases a with
  | agg cs =>
    have h' : purL cs = true := by simpa [purA] using h
    exact purL_iff.1 h' x hx
  | _ => simp [AV.cells] at hx; subst hx; exact h
theorem Rel.pur {G G2 : Ghost} (hz : ∀ b o u, G.fz b o = some u → G2.fz b o = some u) {v : Value} {a : AV} (h : Rel G v a) (hp : purA a = true) : Rel G2 v a := by
  induction h with
  | junk v => exact .junk v
  | int k n => exact .int k n
  | bool b => exact .bool b
  | str s => exact .str s
  | nilp => exact .nilp
  | nils => exact .nils
  | nilm => exact .nilm
  | nilf => exact .nilf
  | nili => exact .nili
  | agg vs aas hl _ ih => exact .agg vs aas hl fun i v a h1 h2 => ih i v a h1 h2 (purL_iff.1 (by simpa [purA] using hp) a (List.mem_of_getElem? h2))
  | tup vs aas hl _ ih => exact .tup vs aas hl fun i v a h1 h2 => ih i v a h1 h2 (purL_iff.1 (by simpa [purA] using hp) a (List.mem_of_getElem? h2))
  | sl b o c t sz es val hc hm hzz hf _ ht ih =>
    cases t with
    | no =>
      have hp' : ∀ e ∈ es, purA e = true := purL_iff.1 (by simpa [purA] using hp)
      exact .sl b o c .no sz es val hc hm hzz (fun i e j a h1 h2 => hz _ _ _ (hf i e j a h1 h2)) (fun i e j a h1 h2 => ih i e j a h1 h2 (pur_cells (hp' e (List.mem_of_getElem? h1)) (List.mem_of_getElem? h2))) trivial
    | _ => cases hp
  | sl0 A c t sz hm ht =>
    cases t with
    | no => exact .sl0 A c .no sz hm (.inl rfl)
    | _ => cases hp
  | fptr b o off x val hf _ ih =>
    have hp' : ∀ e ∈ x, purA e = true := purL_iff.1 (by simpa [purA] using hp)
    exact .fptr b o off x val (fun j a h1 => hz _ _ _ (hf j a h1)) fun j a h1 => ih j a h1 (hp' a (List.mem_of_getElem? h1))
  | ref id off b h => cases hp
  | msl id off len c b hc h => cases hp
  | vec id sz len c b h0 hc hm h hs => cases hp
  | vec0 A id sz => cases hp
  | vc id sz off len c b hc hm h hs => cases hp
  | iface t v a _ ih => exact .iface t v a (ih (by simpa [purA] using hp))
  | fn f fs cs fa ca hl hk _ _ ih1 ih2 =>
    simp only [purA, Bool.and_eq_true] at hp
    exact .fn f fs cs fa ca hl hk (fun i v a h1 h2 => ih1 i v a h1 h2 (purL_iff.1 hp.1 a (List.mem_of_getElem? h2))) (fun i v a h1 h2 => ih2 i v a h1 h2 (purL_iff.1 hp.2 a (List.mem_of_getElem? h2)))
theorem pur_eL {α : Type} {e : α → AV} {sz : Nat} (h : ∀ x, purA (e x) = true) (l : List α) : purA (eL sz e l) = true := by
  simp only [eL, purA]
  exact purL_iff.2 fun a ha => by obtain ⟨x, _, rfl⟩ := List.mem_map.1 ha; exact h x
/-- What an argument is seen as. -/
inductive BArg (σ : St) : AV → AV → Prop where
  | wk {a b : AV} (h : Wk a b) (hp : purA b = true) : BArg σ a b
  | vec {id sz n : Nat} {es : List AV} (hc : σ.objs[id]? = some (flat es)) (hn : n = es.length) (hz : ∀ e ∈ es, e.cells.length = sz) (hs : sz ≠ 0) (hp : purL es = true) : BArg σ (.vec id sz n) (.sl .no sz es)
  | vc {id sz off n cap : Nat} {cells es : List AV} (hc : σ.objs[id]? = some cells) (hle : off + n * sz ≤ cells.length) (hcs : (cells.drop off).take (n * sz) = flat es) (hn : n = es.length) (hz : ∀ e ∈ es, e.cells.length = sz) (hs : sz ≠ 0) (hp : purL es = true) : BArg σ (.vc id sz off n cap) (.sl .no sz es)
theorem BArg.vecl {Ty : TypeId → Option TI} {σ0 σ : St} {O : List (Nat × List AV)} {A : List Nat} (hH : Holds σ0 O A σ) (k : Nat) {id sz n : Nat} {α : Type} {e : α → AV} {l : List α} {E : TypeId} (hk : O[k]? = some (id, cL e l)) (hn : l.length = n) (he : Enc Ty E sz e) (hp : ∀ x, purA (e x) = true) : BArg σ (.vec id sz n) (eL sz e l) :=
  .vec (es := l.map e) (hH.at_ k hk) (by rw [List.length_map]; exact hn.symm) (fun y hy => by obtain ⟨x, _, rfl⟩ := List.mem_map.1 hy; exact he.len x) he.pos (purL_iff.2 fun y hy => by obtain ⟨x, _, rfl⟩ := List.mem_map.1 hy; exact hp x)
inductive BArgs (σ : St) : List AV → List AV → Prop where
  | nil : BArgs σ [] []
  | cons {a b : AV} {aas bs : List AV} (h : BArg σ a b) (t : BArgs σ aas bs) : BArgs σ (a :: aas) (b :: bs)
theorem BArg.rel {σ : St} {w0 : World} {G : Ghost} {w : World} (hI : Inv w0 G w σ) {a b : AV} (h : BArg σ a b) {v : Value} (hr : Rel G v a) : Rel (argG w) v b := by
  have hz : ∀ b o u, G.fz b o = some u → (argG w).fz b o = some u := fun b o u hf => argG_fz (hI.fz b o u hf).1 (hI.fz b o u hf).2
  cases h with
  | wk h hp => exact (h G v hr).pur hz hp
  | @vec id sz n es hc hn hzz hs hp =>
    have hfl := flat_length hzz
    cases hr with
    | vec0 A _ _ =>
      have hnil : es = [] := List.eq_nil_of_length_eq_zero hn.symm
      subst hnil
      exact .sl0 A 0 .no sz (Nat.zero_le _) (.inl rfl)
    | vec _ _ _ c b h0 hc' hm hl hbs =>
      have hne : flat es ≠ [] := fun he => by
        have h2 : (flat es).length = 0 := by rw [he]; rfl
        rw [hfl] at h2
        rcases Nat.mul_eq_zero.1 h2 with h | h
        · omega
        · exact hs h
      obtain ⟨b', T, vs, k1, k2, k3, k4, k5, k6⟩ := hI.loc _ _ hc hne
      rw [hl] at k1
      injection k1 with k1
      subst k1
      have hrel : RelL (argG w) (vs.toList.take (flat es).length) (flat es) := ⟨k4.rel.len, fun i u a h1 h2 => (k4.rel.at_ i u a h1 h2).pur hz (by
        obtain ⟨e, he, ha⟩ := List.mem_flatMap.1 (show a ∈ es.flatMap AV.cells from by have := List.mem_of_getElem? h2; simpa [flat] using this)
        exact pur_cells (purL_iff.1 hp e he) ha)⟩
      rw [hn]
      refine Rel.mkSl (b := b) (o := 0) (t := .no) (by omega) hm hzz hrel (fun j u hu => ?_) trivial
      rw [Nat.zero_add]
      rw [List.getElem?_take] at hu
      split at hu
      · refine argG_fz ?_ (k5 u (List.mem_iff_getElem?.2 ⟨j, hu⟩))
        rw [cell_of_row _ _ _ vs T (0, 0) k3]
        simpa using hu
      · cases hu
  | @vc id sz off n cap cells es hc hle hcs hn hzz hs hp =>
    have hfl := flat_length hzz
    cases hr with
    | vc _ _ _ _ _ b hc' hm hl hbs =>
      by_cases hne : cells = []
      · subst hne
        have h0 : n * sz = 0 := by rw [List.length_nil] at hle; omega
        have hn0 : n = 0 := by
          rcases Nat.mul_eq_zero.1 h0 with h | h
          · exact h
          · exact absurd h hs
        subst hn0
        have hnil : es = [] := List.eq_nil_of_length_eq_zero hn.symm
        subst hnil
        exact .sl0 _ cap .no sz hm (.inl rfl)
      · obtain ⟨b', T, vs, k1, k2, k3, k4, k5, k6⟩ := hI.loc _ _ hc hne
        rw [hl] at k1
        injection k1 with k1
        subst k1
        have hvs : cells.length ≤ vs.size := k4.le
        have hcl : (flat es).length = n * sz := by rw [hfl, ← hn]
        have hrel : RelL (argG w) ((vs.toList.drop off).take (n * sz)) (flat es) := ⟨by rw [hcl, List.length_take, List.length_drop, Array.length_toList]; omega, fun i u a h1 h2 => by
          have hi : i < n * sz := by rw [← hcl]; exact (List.getElem?_eq_some_iff.1 h2).1
          rw [List.getElem?_take, if_pos hi, List.getElem?_drop] at h1
          have h3 := h2
          rw [← hcs, List.getElem?_take, if_pos hi, List.getElem?_drop] at h3
          refine (k4.rel.at_ (off + i) u a (by rw [List.getElem?_take, if_pos (by omega)]; exact h1) h3).pur hz ?_
          obtain ⟨e, he, ha⟩ := List.mem_flatMap.1 (show a ∈ es.flatMap AV.cells from by have := List.mem_of_getElem? h2; simpa [flat] using this)
          exact pur_cells (purL_iff.1 hp e he) ha⟩
        rw [hn] at hrel hc' ⊢
        refine Rel.mkSl (b := b) (o := off) (t := .no) hc' hm hzz hrel (fun j u hu => ?_) trivial
        rw [List.getElem?_take] at hu
        split at hu
        · rw [List.getElem?_drop] at hu
          refine argG_fz ?_ (k5 u (List.mem_iff_getElem?.2 ⟨off + j, hu⟩))
          rw [cell_of_row _ _ _ vs T (0, 0) k3]
          simpa using hu
        · cases hu
theorem BArgs.rel {σ : St} {w0 : World} {G : Ghost} {w : World} (hI : Inv w0 G w σ) : ∀ {aas bs : List AV} (_ : BArgs σ aas bs) {vs : List Value}, RelL G vs aas → RelL (argG w) vs bs
  | _, _, .nil, vs, h => ⟨h.len, fun i v a _ h2 => by simp at h2⟩
  | _, _, .cons (a := a) h t, vs, hr => by
    cases vs with
    | nil => have := hr.len; simp at this
    | cons v vs =>
      exact RelL.cons (h.rel hI (hr.at_ 0 v a rfl rfl)) (t.rel hI ⟨by simpa using hr.len, fun i u b e1 e2 => hr.at_ (i + 1) u b (by simpa using e1) (by simpa using e2)⟩)
/-- A value that speaks of no memory. -/
def sclA : AV → Bool
  | .int _ _ => true
  | .bool _ => true
  | .str _ => true
  | .tup [] => true
  | .tup [.int _ _, .bool _] => true
  | .tup [.int _ _, .int _ _] => true
  | _ => false
theorem Rel.scl {G G2 : Ghost} {v : Value} {a : AV} (h : Rel G v a) (hs : sclA a = true) : Rel G2 v a := by
  unfold sclA at hs
  split at hs
  · cases h; exact .int _ _
  · cases h; exact .bool _
  · cases h; exact .str _
  · cases h with | tup vs _ hl _ => exact .tup vs [] hl (fun i v a _ h => by simp at h)
  · cases h with | tup vs _ hl h =>
    refine .tup vs _ hl fun i v a h1 h2 => ?_
    have := h i v a h1 h2
    match i, h2 with
    | 0, h2 => simp at h2; subst h2; cases this; exact .int _ _
    | 1, h2 => simp at h2; subst h2; cases this; exact .bool _
    | i + 2, h2 => simp at h2
  · cases h with | tup vs _ hl h =>
    refine .tup vs _ hl fun i v a h1 h2 => ?_
    have := h i v a h1 h2
    match i, h2 with
    | 0, h2 => simp at h2; subst h2; cases this; exact .int _ _
    | 1, h2 => simp at h2; subst h2; cases this; exact .int _ _
    | i + 2, h2 => simp at h2
  · cases hs
/-- A world that goes on beside all that was there. -/
theorem Inv.extend {w0 : World} {G : Ghost} {w w' : World} {σ : St} (h : Inv w0 G w σ) (hb : Below w.heap.size w w') : Inv w0 G w' σ := by
  have hc : ∀ b o v, w.cell? ⟨b, o, none⟩ = some v → w'.cell? ⟨b, o, none⟩ = some v := fun b o v hv => by
    rw [hb.cell (World.block_lt_of_cell? w ⟨b, o, none⟩ hv)]; exact hv
  have hh : ∀ {b : Nat} {x : Obj}, w.heap[b]? = some x → w'.heap[b]? = some x := fun {b x} hx => by
    rw [hb.block b (Array.getElem?_eq_some_iff.1 hx).1]; exact hx
  exact ⟨h.below.trans (hb.mono h.below.size), fun b o v hf => ⟨hc b o v (h.fz b o v hf).1, (h.fz b o v hf).2⟩, fun id c hc' hn => by
    obtain ⟨b, T, vs, e1, e2, e3, e4, e5, e6⟩ := h.loc id c hc' hn
    exact ⟨b, T, vs, e1, e2, hh e3, e4, e5, e6⟩, h.locfz, fun id b hl => Nat.lt_of_lt_of_le (h.loclt id b hl) hb.size, h.locdom, h.locinj, fun t b top en ho ht => by
    obtain ⟨e1, ⟨cs, T, e2, e3⟩, e4, e5⟩ := h.tok t b top en ho ht
    exact ⟨e1, ⟨cs, T, hh e2, e3⟩, e4, e5⟩, h.tokdom, h.tokinj, h.nt, fun b hb' => by
    obtain ⟨e1, e2, e3, e4⟩ := h.lit b hb'
    exact ⟨e1, Nat.lt_of_lt_of_le e2 hb.size, e3, e4⟩, h.gl⟩
theorem Inv.glw {w0 : World} {G : Ghost} {w : World} {σ : St} (h : Inv w0 G w σ) : ∀ p ∈ σ.gl, w.cell? p.1 = some p.2 := fun p hp => by
  have := h.gl p hp
  rw [h.below.cell (World.block_lt_of_cell? w0 p.1 this)]
  exact this
section
variable {P : Program} {Ty : TypeId → Option TI} {σ : St} {fr : Nat → AV}
theorem OpS.borrow {o : Oper} {f : Operand} {xs : List Operand} {g : FuncId} {first cap args : List AV} {b : AV} (hc : callOf o = some (f, xs)) (hf : aeval fr f = .fn (.func g) first cap) (hargs : BArgs σ (first ++ xs.map (aeval fr) ++ cap) args) (hb : sclA b = true) (hcall : ACall P g args ⟨[], [], σ.gl⟩ (fun a τ => a = b ∧ τ = ⟨[], [], σ.gl⟩)) : OpS P o fr σ (fun a τ => a = b ∧ τ = σ) := by
  have hmem : f ∈ o.op.operands ∧ ∀ y ∈ xs, y ∈ o.op.operands := by
    unfold callOf at hc
    split at hc
    case h_2 => cases hc
    rename_i c ho
    split at hc
    case h_2 => cases hc
    rename_i f' hcal
    simp at hc
    obtain ⟨rfl, rfl⟩ := hc
    rw [ho]
    simp only [Op.operands, Call.operands, hcal]
    exact ⟨by simp, fun y hy => Array.mem_append.2 (.inr (Array.mem_toList_iff.1 hy))⟩
  intro w0 G act w Q K' hI hr hK
  have hrf := hr f hmem.1
  rw [hf] at hrf
  cases hfv : act.eval f <;> rw [hfv] at hrf <;> cases hrf
  rename_i fs cs h1 h3 h2 h4
  unfold Oper.wp
  rw [call_run hc hfv hcall.1 w]
  simp only [Oper.upon]
  have hl1 : RelL G fs.toList first := ⟨by simpa using h1, fun i v a e1 e2 => h3 i v a (by simpa using e1) e2⟩
  have hl2 : RelL G cs.toList cap := ⟨by simpa using h2, fun i v a e1 e2 => h4 i v a (by simpa using e1) e2⟩
  have hl3 : RelL G (xs.map act.eval) (xs.map (aeval fr)) := ⟨by simp, fun i v x e1 e2 => by
    rw [List.getElem?_map] at e1 e2
    cases hx : xs[i]? with
    | none => rw [hx] at e1; cases e1
    | some y => rw [hx] at e1 e2; cases e1; cases e2; exact hr y (hmem.2 y (List.mem_of_getElem? hx))⟩
  have hrel := hargs.rel hI (vs := (fs ++ (xs.map act.eval).toArray ++ cs).toList) (by simpa using (hl1.append hl3).append hl2)
  refine (hcall.2 w (argG w) w _ (argG_inv w hI.glw) hrel).mono ?_
  rintro e w' ⟨v, x, σ', G', rfl, k1, k2, k3, rfl, rfl⟩
  exact hK v x σ w' G ⟨rfl, rfl⟩ (.refl G) (hI.extend k2.below) (k3.scl hb)
end
end Go.Va
namespace Go.Va
open Go Go.RowKit
section
variable {P : Program} {Ty : TypeId → Option TI} {σ σ' : St} {fr : Nat → AV}
/-- Things of a few simple fields, side by side. -/
def eqCells (P : Program) : List Field → List AV → List AV → Option Bool
  | [], _, _ => some true
  | f :: fs, cs, ds => if f.name = "_" then none else match cs[f.offset]?, ds[f.offset]?, P.underlying f.type with
    | some (.int k a), some (.int k' b), some (.int _) => if k = k' then (if a == b then eqCells P fs cs ds else some false) else none
    | some (.str a), some (.str b), some .string => if decide (a = b) then eqCells P fs cs ds else some false
    | some (.bool a), some (.bool b), some .bool => if a == b then eqCells P fs cs ds else some false
    | _, _, _ => none
variable {d : Option Tmp} {ty : TypeId} {pos : String} {af : Array Edge} {g : Option (Nat × Bool)} {ox oy oi : Operand} {T T' E U : TypeId}
end
end Go.Va
namespace Go.Va
open Go Go.RowKit
set_option linter.unusedVariables false
set_option linter.unusedSimpArgs false
section
variable {P : Program} {Ty : TypeId → Option TI} {σ σ0 : St} {O : List (Nat × List AV)} {A : List Nat} {fr : Nat → AV} {d : Option Tmp} {ty : TypeId} {pos : String} {af : Array Edge} {g : Option (Nat × Bool)} {ox oy oi : Operand} {T T' E U : TypeId} {α : Type} {e : α → AV} {sz id off cap : Nat}
/-- Things that stand in a variable from a place on, and how many have room. -/
structure PartV (e : α → AV) (sz : Nat) (c : List AV) (off cap : Nat) (l : List α) : Prop where
  le : off + l.length * sz ≤ c.length
  at_ : (c.drop off).take (l.length * sz) = cL e l
  room : l.length ≤ cap
def vco (sz off cap l : Nat) : Nat := if cap = l then off else off + l * sz
theorem PartV.all (he : Enc Ty E sz e) {l : List α} (h : l.length ≤ cap) : PartV e sz (cL e l) 0 cap l :=
  have hl := cL_length he.len l
  ⟨by rw [hl]; omega, by rw [List.drop_zero, List.take_of_length_le (by rw [hl]; exact Nat.le_refl _)], h⟩
theorem PartV.cutN (he : Enc Ty E sz e) {c : List AV} {l : List α} (hp : PartV e sz c off cap l) {a b : Nat} (h1 : a ≤ b) (h2 : b ≤ l.length) : PartV e sz c (vco sz off cap a) (cap - a) ((l.take b).drop a) := by
  have hlen : ((l.take b).drop a).length = b - a := by rw [List.length_drop, List.length_take]; omega
  have hroom := hp.room
  have hle := hp.le
  have hab : (b - a) * sz = b * sz - a * sz := Nat.sub_mul _ _ _
  have hb : b * sz ≤ l.length * sz := Nat.mul_le_mul_right _ h2
  have ha : a * sz ≤ b * sz := Nat.mul_le_mul_right _ h1
  unfold vco
  by_cases hc : cap = a
  · rw [if_pos hc]
    have h0 : b - a = 0 := by omega
    refine ⟨by rw [hlen, h0]; omega, ?_, by omega⟩
    rw [hlen, h0, Nat.zero_mul, List.take_zero, List.eq_nil_of_length_eq_zero (hlen.trans h0)]
    rfl
  · rw [if_neg hc]
    refine ⟨by rw [hlen, hab]; omega, ?_, by omega⟩
    rw [hlen, ← cL_drop he.len, ← cL_take he.len, ← hp.at_, List.take_take, Nat.min_eq_left hb, List.drop_take, List.drop_drop, hab]
theorem PartV.cut (he : Enc Ty E sz e) {c : List AV} {l z : List α} (hp : PartV e sz c off cap l) {lo hi : Int} (h : cutO l lo hi = some z) : PartV e sz c (vco sz off cap lo.toNat) (cap - lo.toNat) z := by
  unfold cutO at h
  split at h <;> cases h
  exact hp.cutN he (by omega) (by omega)
theorem PartV.cutTo (he : Enc Ty E sz e) {c : List AV} {l z : List α} (hp : PartV e sz c off cap l) {hi : Int} (h : cutTo l hi = some z) : PartV e sz c (vco sz off cap 0) (cap - 0) z := by
  unfold Va.cutTo at h
  split at h <;> cases h
  exact hp.cutN he (a := 0) (by omega) (by omega)
theorem PartV.cutFrom (he : Enc Ty E sz e) {c : List AV} {l z : List α} (hp : PartV e sz c off cap l) {lo : Int} (h : cutFrom l lo = some z) : PartV e sz c (vco sz off cap lo.toNat) (cap - lo.toNat) z := by
  unfold Va.cutFrom at h
  split at h <;> cases h
  have := hp.cutN he (a := lo.toNat) (b := l.length) (by omega) (Nat.le_refl _)
  rwa [List.take_length] at this
end
end Go.Va
namespace Go.Va
open Go Go.RowKit
/-! ### as many noughts, appended -/
section
variable {P : Program} {Ty : TypeId → Option TI} {σ σ0 : St} {O : List (Nat × List AV)} {A : List Nat} {fr : Nat → AV} {d : Option Tmp} {ty : TypeId} {pos : String} {af : Array Edge} {g : Option (Nat × Bool)} {ox oy : Operand} {T E U S : TypeId}
end
end Go.Va
namespace Go.Va
open Go Go.RowKit
/-! ### append to nothing, or to what is full: a slice that never changes -/
section
variable {P : Program} {Ty : TypeId → Option TI}
variable {σ σ0 : St} {O : List (Nat × List AV)} {A : List Nat} {fr : Nat → AV} {d : Option Tmp} {ty : TypeId} {pos : String} {af : Array Edge} {g : Option (Nat × Bool)} {ox oy : Operand} {T E U S : TypeId} {α : Type} {e : α → AV} {sz id off cap : Nat}
end
end Go.Va
namespace Go.Va
open Go Go.RowKit
/-! ### a slice that never changes, cut with three bounds -/
def cut3 {α : Type} (l : List α) (k h m : Int) : Option (List α) := if 0 ≤ k ∧ k ≤ h ∧ h ≤ m ∧ m ≤ l.length then some ((l.take h.toNat).drop k.toNat) else none
section
variable {P : Program} {Ty : TypeId → Option TI} {σ : St} {fr : Nat → AV} {d : Option Tmp} {ty : TypeId} {pos : String} {af : Array Edge} {g : Option (Nat × Bool)} {ox oy : Operand} {T E : TypeId} {α : Type} {e : α → AV} {sz : Nat} {k : Tok}
end
end Go.Va
namespace Go.Va
open Go Go.RowKit
/-! ### a nil field of a variable as one that may be appended to -/
/-- Cells, of which some nil slices are seen as ones with a token. -/
inductive NkL (t : Nat) : List AV → List AV → Prop where
  | nil : NkL t [] []
  | same {a : AV} {l m : List AV} (h : NkL t l m) : NkL t (a :: l) (a :: m)
  | tok {sz : Nat} {l m : List AV} (h : NkL t l m) : NkL t (.nils :: l) (.sl (.own t) sz [] :: m)
theorem NkL.len {t : Nat} {l m : List AV} (h : NkL t l m) : l.length = m.length := by
  induction h with
  | nil => rfl
  | same _ ih => simp [ih]
  | tok _ ih => simp [ih]
theorem NkL.rel {t : Nat} {l m : List AV} (h : NkL t l m) {G : Ghost} (ht : t < G.nt) : ∀ {vs : List Value}, RelL G vs l → RelL G vs m := by
  induction h with
  | nil => exact fun h => h
  | same _ ih =>
    intro vs hr
    cases vs with
    | nil => have := hr.len; simp at this
    | cons v vs => exact RelL.cons (hr.at_ 0 v _ rfl rfl) (ih ⟨by simpa using hr.len, fun i u a e1 e2 => hr.at_ (i + 1) u a (by simpa using e1) (by simpa using e2)⟩)
  | tok _ ih =>
    intro vs hr
    cases vs with
    | nil => have := hr.len; simp at this
    | cons v vs =>
      have h1 := hr.at_ 0 v _ rfl rfl
      cases h1
      exact RelL.cons (.sl0 none 0 _ _ (Nat.zero_le _) (.inr ⟨rfl, ht⟩)) (ih ⟨by simpa using hr.len, fun i u a e1 e2 => hr.at_ (i + 1) u a (by simpa using e1) (by simpa using e2)⟩)
end Go.Va
namespace Go.Va
open Go Go.RowKit
set_option linter.unusedVariables false
set_option linter.unusedSimpArgs false
section
variable {P : Program} {Ty : TypeId → Option TI} {σ : St} {fr : Nat → AV} {d : Option Tmp} {ty : TypeId} {pos : String} {af : Array Edge} {g : Option (Nat × Bool)} {ox oy : Operand} {T T' E : TypeId} {k : Tok} {sz : Nat} {es : List AV}
/-- A slice beside nil: only one with nothing in it may be nil. -/
theorem o_nilq (hT : TyOk P Ty) (hd : tdOf Ty T = .slice E) (hx : aeval fr ox = .sl k sz es) (hy : aeval fr oy = .nils) : OpS P ⟨d, .binOp .eql T ox oy T', ty, pos, af, g⟩ fr σ (fun a τ => (∃ b, a = .bool b ∧ (b = true → es = [])) ∧ τ = σ) := by
  intro w0 G act w Q K' hI hr hK
  have r1 := hr ox (by simp [Op.operands])
  have r2 := hr oy (by simp [Op.operands])
  rw [hx] at r1; rw [hy] at r2
  have hu := tdOf_ok hT hd (by simp)
  have e2 : act.eval oy = .slice none 0 0 := by
    generalize act.eval oy = v at r2
    cases r2
    rfl
  have e1 : ∃ A n c, act.eval ox = .slice A n c ∧ (A = none → es = []) := by
    generalize act.eval ox = v at r1
    cases r1 with
    | sl b o c t sz es val hc hm hz hf hr ht => exact ⟨_, _, _, rfl, fun h => by cases h⟩
    | sl0 A c t sz hm ht => exact ⟨A, 0, c, rfl, fun _ => rfl⟩
  obtain ⟨A, m, c, e1, h1⟩ := e1
  have hrun : (execOp act.eval ⟨d, .binOp .eql T ox oy T', ty, pos, af, g⟩).run P w = .ok (.value (.bool A.isNone)) w := by
    have he0 : ∀ d : Nat, (Op.equalIn (d + 1) T (.slice A m c) (.slice none 0 0)).run P w = .ok A.isNone w := fun d => by
      cases A with
      | none => simp [Op.equalIn, run_underlying hu]
      | some a => simp [Op.equalIn, run_underlying hu]
    have he : (Op.equalIn 10000 T (.slice A m c) (.slice none 0 0)).run P w = .ok A.isNone w := he0 9999
    have he' : (Op.equal T (.slice A m c) (.slice none 0 0)).run P w = .ok A.isNone w := he
    simp [execOp, e1, e2, eqGuard, binOp, he']
  unfold Oper.wp
  rw [hrun]
  exact hK _ (.bool A.isNone) σ w G ⟨⟨_, rfl, fun hb => h1 (by simpa using hb)⟩, rfl⟩ (.refl G) hI (.bool _)
theorem wpo_nilq {n : Nat} {ops : Array Oper} {K : (Nat → AV) → St → Prop} {o : Oper} {rest : List Oper} {l : List (Nat × AV)} {t : Nat} {es : List AV} (hd : o.dst = some t) (hlt : Nat.ble (t + 1) n = true) (hg : guardOf ops o (fm l) = some true)
    (ho : OpS P o (fm l) σ (fun a τ => (∃ b, a = .bool b ∧ (b = true → es = [])) ∧ τ = σ)) (h : ∀ b, (b = true → es = []) → wpo P n ops K rest (fm ((t, .bool b) :: l)) σ) : wpo P n ops K (o :: rest) (fm l) σ := by
  unfold wpo
  refine ⟨by rw [hd]; exact Nat.le_of_ble_eq_true hlt, ?_⟩
  rw [hg]
  refine ho.mono fun a τ ⟨⟨b, ha, hb⟩, hτ⟩ => ?_
  subst ha hτ
  rw [hd]
  exact h b hb
/-- A choice that is not known, where both ways come to the same. -/
theorem awp_nilif {n : Nat} {c : Operand} {x y : Code} {Q : AExit → (Nat → AV) → St → Prop} {fr : Nat → AV} {b : Bool} (hb : aeval fr c = .bool b) (h1 : b = true → AWP P n x Q fr σ) (h2 : AWP P n y Q fr σ) : AWP P n (.cond c x y) Q fr σ := awp_cond hb h1 (fun _ => h2)
/-- What may be appended to, and more. -/
theorem ACall.apps {gg : FuncId} {args : List AV} {sz : Nat} {es rest : List AV} (hc : ∀ ρ κ, cutL ρ κ es = es) (hrest : ∀ ρ κ, cutL ρ κ rest = rest) (h : ACall P gg args σ (fun a σ' => ∃ t, a = .tup (.sl (.own t) sz es :: rest) ∧ Holds σ [] [t] σ')) : ACall P gg args σ (fun a σ' => a = .tup (.sl (.own σ.opn.length) sz es :: rest) ∧ σ' = σ.more) :=
  h.ren fun a σ' ⟨t0, ha, hH⟩ => by
    subst ha
    obtain ⟨ho, hge⟩ := hH.tok t0 (by simp)
    refine ⟨σ.more, .tup (.sl (.own σ.opn.length) sz es :: rest), idl σ.objs.length, fun i => if i = t0 then some σ.opn.length else idl σ.opn.length i, ⟨idl_inj _, fun i i' j h1 h2 => ?_, fun i hi => by simp [idl, hi], fun i hi => ?_, fun i j h => (idl_lt h).2, fun t u h => ?_, by simp [St.more], rfl, fun j d hj => ?_, fun t u h hu => ?_⟩, ?_, rfl, rfl⟩
    · try simp only at h1 h2
      split at h1 <;> split at h2
      · rename_i e1 e2; rw [e1, e2]
      · have := (idl_lt h2).2; cases h1; omega
      · have := (idl_lt h1).2; cases h2; omega
      · exact idl_inj _ _ _ _ h1 h2
    · try simp only
      rw [if_neg (by omega)]
      simp [idl, hi]
    · try simp only at h
      split at h
      · cases h; simp [St.more]
      · have := (idl_lt h).2; simp [St.more]; omega
    · have hlt : j < σ.objs.length := (List.getElem?_eq_some_iff.1 hj).1
      exact ⟨j, d, by simp [idl, hlt], hH.base j d hj (fun p hp => by cases hp), .inl ⟨hj, rfl⟩⟩
    · try simp only at h
      split at h
      · rename_i e; subst e; exact ho
      · obtain ⟨rfl, hlt⟩ := idl_lt h
        refine hH.opn t ?_
        simp only [St.more] at hu
        rw [List.getElem?_append_left hlt] at hu
        exact hu
    · simp only [cutAV, cutL, cutTok, if_true, hc, hrest]
      exact Wk.refl _
theorem ACall.unapps {gg : FuncId} {args : List AV} {sz : Nat} {es rest : List AV} (hc : ∀ ρ κ, cutL ρ κ es = es) (hrest : ∀ ρ κ, cutL ρ κ rest = rest) (h : ACall P gg args σ (fun a σ' => a = .tup (.sl (.own σ.opn.length) sz es :: rest) ∧ σ' = σ.more)) : ACall P gg args σ (fun a σ' => a = .tup (.sl .no sz es :: rest) ∧ σ' = σ) :=
  h.cut fun a σ' ⟨ha, hs⟩ => ⟨σ, .tup (.sl .no sz es :: rest), rfl, rfl, rfl, fun t ht => by subst hs; exact opn_more ht, fun id c hid => by subst hs; exact ⟨hid, .inl hid⟩, by
    subst ha
    simp only [cutAV, cutL, cutTok, hc, hrest]
    rw [show idl σ.opn.length σ.opn.length = none by simp [idl]]
    exact Wk.refl _, rfl, rfl⟩
theorem h_callas {σ0 : St} {O : List (Nat × List AV)} {A : List Nat} (hH : Holds σ0 O A σ) {o : Oper} {f : Operand} {xs : List Operand} {gg : FuncId} {first cap args es rest : List AV} (hc : callOf o = some (f, xs)) (hf : aeval fr f = .fn (.func gg) first cap) (hargs : WkL (first ++ xs.map (aeval fr) ++ cap) args)
    (hcall : ACall P gg args σ (fun a τ => a = .tup (.sl (.own σ.opn.length) sz es :: rest) ∧ τ = σ.more)) : ∃ t τ, OpS P o fr σ (fun a' τ' => a' = .tup (.sl (.own t) sz es :: rest) ∧ τ' = τ) ∧ Holds σ0 O (t :: A) τ :=
  ⟨_, _, OpS.of_call hc hf hargs hcall, hH.more⟩
end
end Go.Va
namespace Go.Proofs.YtkmlinaofbcbaaaDoor
open Go Go.Va
set_option linter.unusedSimpArgs false
def ty_0 : TypeId → Option TI
  | 1 => some ⟨.func, 1, 8, .nilf⟩
  | 2 => some ⟨.int .i64, 1, 8, .int .i64 0⟩
  | 3 => some ⟨.int .i64, 1, 8, .int .i64 0⟩
  | 4 => some ⟨.bool, 1, 1, .bool false⟩
  | 5 => some ⟨.int .u8, 1, 1, .int .u8 0⟩
  | 6 => some ⟨.int .u8, 1, 1, .int .u8 0⟩
  | 7 => some ⟨.struct [(0, 2), (1, 3), (2, 4), (3, 6)], 4, 24, .agg [.int .i64 0, .int .i64 0, .bool false, .int .u8 0]⟩
  | 8 => some ⟨.struct [(0, 2), (1, 3), (2, 4), (3, 6)], 4, 24, .agg [.int .i64 0, .int .i64 0, .bool false, .int .u8 0]⟩
  | 9 => some ⟨.str, 1, 16, .str ⟨#[]⟩⟩
  | 10 => some ⟨.str, 1, 16, .str ⟨#[]⟩⟩
  | 11 => some ⟨.str, 1, 16, .str ⟨#[]⟩⟩
  | 12 => some ⟨.int .u64, 1, 8, .int .u64 0⟩
  | 13 => some ⟨.struct [(0, 9), (1, 12)], 2, 24, .agg [.str ⟨#[]⟩, .int .u64 0]⟩
  | 14 => some ⟨.struct [(0, 9), (1, 12)], 2, 24, .agg [.str ⟨#[]⟩, .int .u64 0]⟩
  | 15 => some ⟨.ptr 197, 1, 8, .nilp⟩
  | 16 => some ⟨.ptr 200, 1, 8, .nilp⟩
  | 17 => some ⟨.ptr 208, 1, 8, .nilp⟩
  | 18 => some ⟨.struct [(0, 17)], 1, 8, .agg [.nilp]⟩
  | 19 => some ⟨.struct [(0, 17)], 1, 8, .agg [.nilp]⟩
  | 20 => some ⟨.iface, 1, 16, .nili⟩
  | 21 => some ⟨.int .i32, 1, 4, .int .i32 0⟩
  | 22 => some ⟨.slice 5, 1, 24, .nils⟩
  | 23 => some ⟨.struct [(0, 9), (1, 3), (2, 3), (3, 3), (4, 22)], 5, 64, .agg [.str ⟨#[]⟩, .int .i64 0, .int .i64 0, .int .i64 0, .nils]⟩
  | 24 => some ⟨.struct [(0, 9), (1, 3), (2, 3), (3, 3), (4, 22)], 5, 64, .agg [.str ⟨#[]⟩, .int .i64 0, .int .i64 0, .int .i64 0, .nils]⟩
  | 25 => some ⟨.struct [(0, 3), (1, 3), (2, 3), (3, 3), (4, 3), (5, 24), (10, 4)], 11, 112, .agg [.int .i64 0, .int .i64 0, .int .i64 0, .int .i64 0, .int .i64 0, .str ⟨#[]⟩, .int .i64 0, .int .i64 0, .int .i64 0, .nils, .bool false]⟩
  | 26 => some ⟨.struct [(0, 3), (1, 3), (2, 3), (3, 3), (4, 3), (5, 24), (10, 4)], 11, 112, .agg [.int .i64 0, .int .i64 0, .int .i64 0, .int .i64 0, .int .i64 0, .str ⟨#[]⟩, .int .i64 0, .int .i64 0, .int .i64 0, .nils, .bool false]⟩
  | 27 => some ⟨.func, 1, 8, .nilf⟩
  | 28 => some ⟨.func, 1, 8, .nilf⟩
  | 29 => some ⟨.iface, 1, 16, .nili⟩
  | 30 => some ⟨.iface, 1, 16, .nili⟩
  | 32 => some ⟨.func, 1, 8, .nilf⟩
  | 33 => some ⟨.int .i64, 1, 8, .int .i64 0⟩
  | 35 => some ⟨.func, 1, 8, .nilf⟩
  | 36 => some ⟨.func, 1, 8, .nilf⟩
  | 37 => some ⟨.func, 1, 8, .nilf⟩
  | 38 => some ⟨.func, 1, 8, .nilf⟩
  | 39 => some ⟨.func, 1, 8, .nilf⟩
  | 40 => some ⟨.func, 1, 8, .nilf⟩
  | 41 => some ⟨.func, 1, 8, .nilf⟩
  | 43 => some ⟨.func, 1, 8, .nilf⟩
  | 45 => some ⟨.func, 1, 8, .nilf⟩
  | 46 => some ⟨.func, 1, 8, .nilf⟩
  | 47 => some ⟨.func, 1, 8, .nilf⟩
  | 48 => some ⟨.int .u16, 1, 2, .int .u16 0⟩
  | 49 => some ⟨.int .u32, 1, 4, .int .u32 0⟩
  | 50 => some ⟨.func, 1, 8, .nilf⟩
  | 51 => some ⟨.slice 3, 1, 24, .nils⟩
  | 52 => some ⟨.struct [(0, 3), (1, 3), (2, 3), (3, 51)], 4, 48, .agg [.int .i64 0, .int .i64 0, .int .i64 0, .nils]⟩
  | 53 => some ⟨.struct [(0, 3), (1, 3), (2, 3), (3, 51)], 4, 48, .agg [.int .i64 0, .int .i64 0, .int .i64 0, .nils]⟩
  | 54 => some ⟨.func, 1, 8, .nilf⟩
  | 55 => some ⟨.func, 1, 8, .nilf⟩
  | 57 => some ⟨.func, 1, 8, .nilf⟩
  | 58 => some ⟨.func, 1, 8, .nilf⟩
  | 59 => some ⟨.func, 1, 8, .nilf⟩
  | 60 => some ⟨.slice 24, 1, 24, .nils⟩
  | 61 => some ⟨.func, 1, 8, .nilf⟩
  | 62 => some ⟨.slice 22, 1, 24, .nils⟩
  | 63 => some ⟨.func, 1, 8, .nilf⟩
  | 65 => some ⟨.func, 1, 8, .nilf⟩
  | 67 => some ⟨.func, 1, 8, .nilf⟩
  | _ => none
def ty_1 : TypeId → Option TI
  | 68 => some ⟨.func, 1, 8, .nilf⟩
  | 69 => some ⟨.func, 1, 8, .nilf⟩
  | 70 => some ⟨.slice 74, 1, 24, .nils⟩
  | 71 => some ⟨.func, 1, 8, .nilf⟩
  | 72 => some ⟨.int .u64, 1, 8, .int .u64 0⟩
  | 73 => some ⟨.struct [(0, 72), (1, 3), (2, 3)], 3, 24, .agg [.int .u64 0, .int .i64 0, .int .i64 0]⟩
  | 74 => some ⟨.struct [(0, 72), (1, 3), (2, 3)], 3, 24, .agg [.int .u64 0, .int .i64 0, .int .i64 0]⟩
  | 75 => some ⟨.func, 1, 8, .nilf⟩
  | 76 => some ⟨.func, 1, 8, .nilf⟩
  | 77 => some ⟨.func, 1, 8, .nilf⟩
  | 78 => some ⟨.func, 1, 8, .nilf⟩
  | 79 => some ⟨.func, 1, 8, .nilf⟩
  | 80 => some ⟨.func, 1, 8, .nilf⟩
  | 82 => some ⟨.func, 1, 8, .nilf⟩
  | 84 => some ⟨.func, 1, 8, .nilf⟩
  | 86 => some ⟨.func, 1, 8, .nilf⟩
  | 87 => some ⟨.func, 1, 8, .nilf⟩
  | 88 => some ⟨.func, 1, 8, .nilf⟩
  | 89 => some ⟨.func, 1, 8, .nilf⟩
  | 90 => some ⟨.func, 1, 8, .nilf⟩
  | 91 => some ⟨.arr 2 72, 2, 16, .agg [.int .u64 0, .int .u64 0]⟩
  | 92 => some ⟨.arr 2 72, 2, 16, .agg [.int .u64 0, .int .u64 0]⟩
  | 93 => some ⟨.func, 1, 8, .nilf⟩
  | 94 => some ⟨.func, 1, 8, .nilf⟩
  | 95 => some ⟨.func, 1, 8, .nilf⟩
  | 96 => some ⟨.slice 72, 1, 24, .nils⟩
  | 97 => some ⟨.func, 1, 8, .nilf⟩
  | 98 => some ⟨.slice 9, 1, 24, .nils⟩
  | 99 => some ⟨.func, 1, 8, .nilf⟩
  | 100 => some ⟨.func, 1, 8, .nilf⟩
  | 101 => some ⟨.func, 1, 8, .nilf⟩
  | 102 => some ⟨.func, 1, 8, .nilf⟩
  | 103 => some ⟨.func, 1, 8, .nilf⟩
  | 104 => some ⟨.func, 1, 8, .nilf⟩
  | 105 => some ⟨.func, 1, 8, .nilf⟩
  | 106 => some ⟨.func, 1, 8, .nilf⟩
  | 107 => some ⟨.func, 1, 8, .nilf⟩
  | 108 => some ⟨.func, 1, 8, .nilf⟩
  | 109 => some ⟨.ptr 113, 1, 8, .nilp⟩
  | 110 => some ⟨.func, 1, 8, .nilf⟩
  | 111 => some ⟨.ptr 109, 1, 8, .nilp⟩
  | 112 => some ⟨.struct [(0, 9), (1, 3), (2, 33), (3, 30)], 4, 48, .agg [.str ⟨#[]⟩, .int .i64 0, .int .i64 0, .nili]⟩
  | 113 => some ⟨.struct [(0, 9), (1, 3), (2, 33), (3, 30)], 4, 48, .agg [.str ⟨#[]⟩, .int .i64 0, .int .i64 0, .nili]⟩
  | 114 => some ⟨.func, 1, 8, .nilf⟩
  | 115 => some ⟨.func, 1, 8, .nilf⟩
  | 116 => some ⟨.func, 1, 8, .nilf⟩
  | 117 => some ⟨.func, 1, 8, .nilf⟩
  | 118 => some ⟨.func, 1, 8, .nilf⟩
  | 119 => some ⟨.func, 1, 8, .nilf⟩
  | 120 => some ⟨.ptr 170, 1, 8, .nilp⟩
  | 121 => some ⟨.func, 1, 8, .nilf⟩
  | 122 => some ⟨.func, 1, 8, .nilf⟩
  | 123 => some ⟨.func, 1, 8, .nilf⟩
  | 126 => some ⟨.struct [(0, 22), (1, 3), (2, 33)], 3, 40, .agg [.nils, .int .i64 0, .int .i64 0]⟩
  | 127 => some ⟨.struct [(0, 22), (1, 3), (2, 33)], 3, 40, .agg [.nils, .int .i64 0, .int .i64 0]⟩
  | 132 => some ⟨.func, 1, 8, .nilf⟩
  | _ => none
def ty_2 : TypeId → Option TI
  | 134 => some ⟨.func, 1, 8, .nilf⟩
  | 136 => some ⟨.func, 1, 8, .nilf⟩
  | 137 => some ⟨.func, 1, 8, .nilf⟩
  | 138 => some ⟨.func, 1, 8, .nilf⟩
  | 139 => some ⟨.func, 1, 8, .nilf⟩
  | 140 => some ⟨.func, 1, 8, .nilf⟩
  | 141 => some ⟨.func, 1, 8, .nilf⟩
  | 142 => some ⟨.func, 1, 8, .nilf⟩
  | 143 => some ⟨.func, 1, 8, .nilf⟩
  | 144 => some ⟨.func, 1, 8, .nilf⟩
  | 145 => some ⟨.func, 1, 8, .nilf⟩
  | 146 => some ⟨.func, 1, 8, .nilf⟩
  | 147 => some ⟨.func, 1, 8, .nilf⟩
  | 148 => some ⟨.func, 1, 8, .nilf⟩
  | 149 => some ⟨.arr 3 3, 3, 24, .agg [.int .i64 0, .int .i64 0, .int .i64 0]⟩
  | 150 => some ⟨.func, 1, 8, .nilf⟩
  | 151 => some ⟨.int .u64, 1, 8, .int .u64 0⟩
  | 152 => some ⟨.func, 1, 8, .nilf⟩
  | 153 => some ⟨.func, 1, 8, .nilf⟩
  | 154 => some ⟨.arr 4 5, 4, 4, .agg [.int .u8 0, .int .u8 0, .int .u8 0, .int .u8 0]⟩
  | 155 => some ⟨.func, 1, 8, .nilf⟩
  | 157 => some ⟨.int .u64, 1, 8, .int .u64 0⟩
  | 160 => some ⟨.func, 1, 8, .nilf⟩
  | 161 => some ⟨.iface, 1, 16, .nili⟩
  | 163 => some ⟨.func, 1, 8, .nilf⟩
  | 164 => some ⟨.int .u8, 1, 1, .int .u8 0⟩
  | 168 => some ⟨.func, 1, 8, .nilf⟩
  | 169 => some ⟨.struct [(0, 22), (1, 3), (2, 33)], 3, 40, .agg [.nils, .int .i64 0, .int .i64 0]⟩
  | 170 => some ⟨.struct [(0, 22), (1, 3), (2, 33)], 3, 40, .agg [.nils, .int .i64 0, .int .i64 0]⟩
  | 181 => some ⟨.struct [(0, 17)], 1, 8, .agg [.nilp]⟩
  | _ => none
def ty_3 : TypeId → Option TI
  | 205 => some ⟨.int .i32, 1, 4, .int .i32 0⟩
  | 206 => some ⟨.int .i32, 1, 4, .int .i32 0⟩
  | 211 => some ⟨.struct [(0, 9), (1, 164)], 2, 24, .agg [.str ⟨#[]⟩, .int .u8 0]⟩
  | 212 => some ⟨.struct [(0, 9), (1, 164)], 2, 24, .agg [.str ⟨#[]⟩, .int .u8 0]⟩
  | 218 => some ⟨.int .i32, 1, 4, .int .i32 0⟩
  | 219 => some ⟨.struct [(0, 205), (1, 206), (2, 218), (3, 218)], 4, 16, .agg [.int .i32 0, .int .i32 0, .int .i32 0, .int .i32 0]⟩
  | 220 => some ⟨.struct [(0, 205), (1, 206), (2, 218), (3, 218)], 4, 16, .agg [.int .i32 0, .int .i32 0, .int .i32 0, .int .i32 0]⟩
  | _ => none
def ty : TypeId → Option TI := fun t => bif Nat.ble t 67 then ty_0 t else bif Nat.ble t 132 then ty_1 t else bif Nat.ble t 203 then ty_2 t else ty_3 t
theorem ty1 : ty 1 = some ⟨.func, 1, 8, .nilf⟩ := rfl
theorem td1 : tdOf ty 1 = .func := rfl
theorem sz1 : szOf ty 1 = 1 := rfl
theorem ty2 : ty 2 = some ⟨.int .i64, 1, 8, .int .i64 0⟩ := rfl
theorem td2 : tdOf ty 2 = .int .i64 := rfl
theorem sz2 : szOf ty 2 = 1 := rfl
theorem ty3 : ty 3 = some ⟨.int .i64, 1, 8, .int .i64 0⟩ := rfl
theorem td3 : tdOf ty 3 = .int .i64 := rfl
theorem sz3 : szOf ty 3 = 1 := rfl
theorem ty4 : ty 4 = some ⟨.bool, 1, 1, .bool false⟩ := rfl
theorem td4 : tdOf ty 4 = .bool := rfl
theorem sz4 : szOf ty 4 = 1 := rfl
theorem ty5 : ty 5 = some ⟨.int .u8, 1, 1, .int .u8 0⟩ := rfl
theorem td5 : tdOf ty 5 = .int .u8 := rfl
theorem sz5 : szOf ty 5 = 1 := rfl
theorem ty6 : ty 6 = some ⟨.int .u8, 1, 1, .int .u8 0⟩ := rfl
theorem td6 : tdOf ty 6 = .int .u8 := rfl
theorem sz6 : szOf ty 6 = 1 := rfl
theorem ty7 : ty 7 = some ⟨.struct [(0, 2), (1, 3), (2, 4), (3, 6)], 4, 24, .agg [.int .i64 0, .int .i64 0, .bool false, .int .u8 0]⟩ := rfl
theorem td7 : tdOf ty 7 = .struct [(0, 2), (1, 3), (2, 4), (3, 6)] := rfl
theorem sz7 : szOf ty 7 = 4 := rfl
theorem ty8 : ty 8 = some ⟨.struct [(0, 2), (1, 3), (2, 4), (3, 6)], 4, 24, .agg [.int .i64 0, .int .i64 0, .bool false, .int .u8 0]⟩ := rfl
theorem td8 : tdOf ty 8 = .struct [(0, 2), (1, 3), (2, 4), (3, 6)] := rfl
theorem sz8 : szOf ty 8 = 4 := rfl
theorem ty9 : ty 9 = some ⟨.str, 1, 16, .str ⟨#[]⟩⟩ := rfl
theorem td9 : tdOf ty 9 = .str := rfl
theorem sz9 : szOf ty 9 = 1 := rfl
theorem ty10 : ty 10 = some ⟨.str, 1, 16, .str ⟨#[]⟩⟩ := rfl
theorem td10 : tdOf ty 10 = .str := rfl
theorem sz10 : szOf ty 10 = 1 := rfl
theorem ty11 : ty 11 = some ⟨.str, 1, 16, .str ⟨#[]⟩⟩ := rfl
theorem td11 : tdOf ty 11 = .str := rfl
theorem sz11 : szOf ty 11 = 1 := rfl
theorem ty12 : ty 12 = some ⟨.int .u64, 1, 8, .int .u64 0⟩ := rfl
theorem td12 : tdOf ty 12 = .int .u64 := rfl
theorem sz12 : szOf ty 12 = 1 := rfl
theorem ty13 : ty 13 = some ⟨.struct [(0, 9), (1, 12)], 2, 24, .agg [.str ⟨#[]⟩, .int .u64 0]⟩ := rfl
theorem td13 : tdOf ty 13 = .struct [(0, 9), (1, 12)] := rfl
theorem sz13 : szOf ty 13 = 2 := rfl
theorem ty14 : ty 14 = some ⟨.struct [(0, 9), (1, 12)], 2, 24, .agg [.str ⟨#[]⟩, .int .u64 0]⟩ := rfl
theorem td14 : tdOf ty 14 = .struct [(0, 9), (1, 12)] := rfl
theorem sz14 : szOf ty 14 = 2 := rfl
theorem ty15 : ty 15 = some ⟨.ptr 197, 1, 8, .nilp⟩ := rfl
theorem td15 : tdOf ty 15 = .ptr 197 := rfl
theorem sz15 : szOf ty 15 = 1 := rfl
theorem ty16 : ty 16 = some ⟨.ptr 200, 1, 8, .nilp⟩ := rfl
theorem td16 : tdOf ty 16 = .ptr 200 := rfl
theorem sz16 : szOf ty 16 = 1 := rfl
theorem ty17 : ty 17 = some ⟨.ptr 208, 1, 8, .nilp⟩ := rfl
theorem td17 : tdOf ty 17 = .ptr 208 := rfl
theorem sz17 : szOf ty 17 = 1 := rfl
theorem ty18 : ty 18 = some ⟨.struct [(0, 17)], 1, 8, .agg [.nilp]⟩ := rfl
theorem td18 : tdOf ty 18 = .struct [(0, 17)] := rfl
theorem sz18 : szOf ty 18 = 1 := rfl
theorem ty19 : ty 19 = some ⟨.struct [(0, 17)], 1, 8, .agg [.nilp]⟩ := rfl
theorem td19 : tdOf ty 19 = .struct [(0, 17)] := rfl
theorem sz19 : szOf ty 19 = 1 := rfl
theorem ty20 : ty 20 = some ⟨.iface, 1, 16, .nili⟩ := rfl
theorem td20 : tdOf ty 20 = .iface := rfl
theorem sz20 : szOf ty 20 = 1 := rfl
theorem ty21 : ty 21 = some ⟨.int .i32, 1, 4, .int .i32 0⟩ := rfl
theorem td21 : tdOf ty 21 = .int .i32 := rfl
theorem sz21 : szOf ty 21 = 1 := rfl
theorem ty22 : ty 22 = some ⟨.slice 5, 1, 24, .nils⟩ := rfl
theorem td22 : tdOf ty 22 = .slice 5 := rfl
theorem sz22 : szOf ty 22 = 1 := rfl
theorem ty23 : ty 23 = some ⟨.struct [(0, 9), (1, 3), (2, 3), (3, 3), (4, 22)], 5, 64, .agg [.str ⟨#[]⟩, .int .i64 0, .int .i64 0, .int .i64 0, .nils]⟩ := rfl
theorem td23 : tdOf ty 23 = .struct [(0, 9), (1, 3), (2, 3), (3, 3), (4, 22)] := rfl
theorem sz23 : szOf ty 23 = 5 := rfl
theorem ty24 : ty 24 = some ⟨.struct [(0, 9), (1, 3), (2, 3), (3, 3), (4, 22)], 5, 64, .agg [.str ⟨#[]⟩, .int .i64 0, .int .i64 0, .int .i64 0, .nils]⟩ := rfl
theorem td24 : tdOf ty 24 = .struct [(0, 9), (1, 3), (2, 3), (3, 3), (4, 22)] := rfl
theorem sz24 : szOf ty 24 = 5 := rfl
theorem ty25 : ty 25 = some ⟨.struct [(0, 3), (1, 3), (2, 3), (3, 3), (4, 3), (5, 24), (10, 4)], 11, 112, .agg [.int .i64 0, .int .i64 0, .int .i64 0, .int .i64 0, .int .i64 0, .str ⟨#[]⟩, .int .i64 0, .int .i64 0, .int .i64 0, .nils, .bool false]⟩ := rfl
theorem td25 : tdOf ty 25 = .struct [(0, 3), (1, 3), (2, 3), (3, 3), (4, 3), (5, 24), (10, 4)] := rfl
theorem sz25 : szOf ty 25 = 11 := rfl
theorem ty26 : ty 26 = some ⟨.struct [(0, 3), (1, 3), (2, 3), (3, 3), (4, 3), (5, 24), (10, 4)], 11, 112, .agg [.int .i64 0, .int .i64 0, .int .i64 0, .int .i64 0, .int .i64 0, .str ⟨#[]⟩, .int .i64 0, .int .i64 0, .int .i64 0, .nils, .bool false]⟩ := rfl
theorem td26 : tdOf ty 26 = .struct [(0, 3), (1, 3), (2, 3), (3, 3), (4, 3), (5, 24), (10, 4)] := rfl
theorem sz26 : szOf ty 26 = 11 := rfl
theorem ty27 : ty 27 = some ⟨.func, 1, 8, .nilf⟩ := rfl
theorem td27 : tdOf ty 27 = .func := rfl
theorem sz27 : szOf ty 27 = 1 := rfl
theorem ty28 : ty 28 = some ⟨.func, 1, 8, .nilf⟩ := rfl
theorem td28 : tdOf ty 28 = .func := rfl
theorem sz28 : szOf ty 28 = 1 := rfl
theorem ty29 : ty 29 = some ⟨.iface, 1, 16, .nili⟩ := rfl
theorem td29 : tdOf ty 29 = .iface := rfl
theorem sz29 : szOf ty 29 = 1 := rfl
theorem ty30 : ty 30 = some ⟨.iface, 1, 16, .nili⟩ := rfl
theorem td30 : tdOf ty 30 = .iface := rfl
theorem sz30 : szOf ty 30 = 1 := rfl
theorem ty32 : ty 32 = some ⟨.func, 1, 8, .nilf⟩ := rfl
theorem td32 : tdOf ty 32 = .func := rfl
theorem sz32 : szOf ty 32 = 1 := rfl
theorem ty33 : ty 33 = some ⟨.int .i64, 1, 8, .int .i64 0⟩ := rfl
theorem td33 : tdOf ty 33 = .int .i64 := rfl
theorem sz33 : szOf ty 33 = 1 := rfl
theorem ty35 : ty 35 = some ⟨.func, 1, 8, .nilf⟩ := rfl
theorem td35 : tdOf ty 35 = .func := rfl
theorem sz35 : szOf ty 35 = 1 := rfl
theorem ty36 : ty 36 = some ⟨.func, 1, 8, .nilf⟩ := rfl
theorem td36 : tdOf ty 36 = .func := rfl
theorem sz36 : szOf ty 36 = 1 := rfl
theorem ty37 : ty 37 = some ⟨.func, 1, 8, .nilf⟩ := rfl
theorem td37 : tdOf ty 37 = .func := rfl
theorem sz37 : szOf ty 37 = 1 := rfl
theorem ty38 : ty 38 = some ⟨.func, 1, 8, .nilf⟩ := rfl
theorem td38 : tdOf ty 38 = .func := rfl
theorem sz38 : szOf ty 38 = 1 := rfl
theorem ty39 : ty 39 = some ⟨.func, 1, 8, .nilf⟩ := rfl
theorem td39 : tdOf ty 39 = .func := rfl
theorem sz39 : szOf ty 39 = 1 := rfl
theorem ty40 : ty 40 = some ⟨.func, 1, 8, .nilf⟩ := rfl
theorem td40 : tdOf ty 40 = .func := rfl
theorem sz40 : szOf ty 40 = 1 := rfl
theorem ty41 : ty 41 = some ⟨.func, 1, 8, .nilf⟩ := rfl
theorem td41 : tdOf ty 41 = .func := rfl
theorem sz41 : szOf ty 41 = 1 := rfl
theorem ty43 : ty 43 = some ⟨.func, 1, 8, .nilf⟩ := rfl
theorem td43 : tdOf ty 43 = .func := rfl
theorem sz43 : szOf ty 43 = 1 := rfl
theorem ty45 : ty 45 = some ⟨.func, 1, 8, .nilf⟩ := rfl
theorem td45 : tdOf ty 45 = .func := rfl
theorem sz45 : szOf ty 45 = 1 := rfl
theorem ty46 : ty 46 = some ⟨.func, 1, 8, .nilf⟩ := rfl
theorem td46 : tdOf ty 46 = .func := rfl
theorem sz46 : szOf ty 46 = 1 := rfl
theorem ty47 : ty 47 = some ⟨.func, 1, 8, .nilf⟩ := rfl
theorem td47 : tdOf ty 47 = .func := rfl
theorem sz47 : szOf ty 47 = 1 := rfl
theorem ty48 : ty 48 = some ⟨.int .u16, 1, 2, .int .u16 0⟩ := rfl
theorem td48 : tdOf ty 48 = .int .u16 := rfl
theorem sz48 : szOf ty 48 = 1 := rfl
theorem ty49 : ty 49 = some ⟨.int .u32, 1, 4, .int .u32 0⟩ := rfl
theorem td49 : tdOf ty 49 = .int .u32 := rfl
theorem sz49 : szOf ty 49 = 1 := rfl
theorem ty50 : ty 50 = some ⟨.func, 1, 8, .nilf⟩ := rfl
theorem td50 : tdOf ty 50 = .func := rfl
theorem sz50 : szOf ty 50 = 1 := rfl
theorem ty51 : ty 51 = some ⟨.slice 3, 1, 24, .nils⟩ := rfl
theorem td51 : tdOf ty 51 = .slice 3 := rfl
theorem sz51 : szOf ty 51 = 1 := rfl
theorem ty52 : ty 52 = some ⟨.struct [(0, 3), (1, 3), (2, 3), (3, 51)], 4, 48, .agg [.int .i64 0, .int .i64 0, .int .i64 0, .nils]⟩ := rfl
theorem td52 : tdOf ty 52 = .struct [(0, 3), (1, 3), (2, 3), (3, 51)] := rfl
theorem sz52 : szOf ty 52 = 4 := rfl
theorem ty53 : ty 53 = some ⟨.struct [(0, 3), (1, 3), (2, 3), (3, 51)], 4, 48, .agg [.int .i64 0, .int .i64 0, .int .i64 0, .nils]⟩ := rfl
theorem td53 : tdOf ty 53 = .struct [(0, 3), (1, 3), (2, 3), (3, 51)] := rfl
theorem sz53 : szOf ty 53 = 4 := rfl
theorem ty54 : ty 54 = some ⟨.func, 1, 8, .nilf⟩ := rfl
theorem td54 : tdOf ty 54 = .func := rfl
theorem sz54 : szOf ty 54 = 1 := rfl
theorem ty55 : ty 55 = some ⟨.func, 1, 8, .nilf⟩ := rfl
theorem td55 : tdOf ty 55 = .func := rfl
theorem sz55 : szOf ty 55 = 1 := rfl
theorem ty57 : ty 57 = some ⟨.func, 1, 8, .nilf⟩ := rfl
theorem td57 : tdOf ty 57 = .func := rfl
theorem sz57 : szOf ty 57 = 1 := rfl
theorem ty58 : ty 58 = some ⟨.func, 1, 8, .nilf⟩ := rfl
theorem td58 : tdOf ty 58 = .func := rfl
theorem sz58 : szOf ty 58 = 1 := rfl
theorem ty59 : ty 59 = some ⟨.func, 1, 8, .nilf⟩ := rfl
theorem td59 : tdOf ty 59 = .func := rfl
theorem sz59 : szOf ty 59 = 1 := rfl
theorem ty60 : ty 60 = some ⟨.slice 24, 1, 24, .nils⟩ := rfl
theorem td60 : tdOf ty 60 = .slice 24 := rfl
theorem sz60 : szOf ty 60 = 1 := rfl
theorem ty61 : ty 61 = some ⟨.func, 1, 8, .nilf⟩ := rfl
theorem td61 : tdOf ty 61 = .func := rfl
theorem sz61 : szOf ty 61 = 1 := rfl
theorem ty62 : ty 62 = some ⟨.slice 22, 1, 24, .nils⟩ := rfl
theorem td62 : tdOf ty 62 = .slice 22 := rfl
theorem sz62 : szOf ty 62 = 1 := rfl
theorem ty63 : ty 63 = some ⟨.func, 1, 8, .nilf⟩ := rfl
theorem td63 : tdOf ty 63 = .func := rfl
theorem sz63 : szOf ty 63 = 1 := rfl
theorem ty65 : ty 65 = some ⟨.func, 1, 8, .nilf⟩ := rfl
theorem td65 : tdOf ty 65 = .func := rfl
theorem sz65 : szOf ty 65 = 1 := rfl
theorem ty67 : ty 67 = some ⟨.func, 1, 8, .nilf⟩ := rfl
theorem td67 : tdOf ty 67 = .func := rfl
theorem sz67 : szOf ty 67 = 1 := rfl
theorem ty68 : ty 68 = some ⟨.func, 1, 8, .nilf⟩ := rfl
theorem td68 : tdOf ty 68 = .func := rfl
theorem sz68 : szOf ty 68 = 1 := rfl
theorem ty69 : ty 69 = some ⟨.func, 1, 8, .nilf⟩ := rfl
theorem td69 : tdOf ty 69 = .func := rfl
theorem sz69 : szOf ty 69 = 1 := rfl
theorem ty70 : ty 70 = some ⟨.slice 74, 1, 24, .nils⟩ := rfl
theorem td70 : tdOf ty 70 = .slice 74 := rfl
theorem sz70 : szOf ty 70 = 1 := rfl
theorem ty71 : ty 71 = some ⟨.func, 1, 8, .nilf⟩ := rfl
theorem td71 : tdOf ty 71 = .func := rfl
theorem sz71 : szOf ty 71 = 1 := rfl
theorem ty72 : ty 72 = some ⟨.int .u64, 1, 8, .int .u64 0⟩ := rfl
theorem td72 : tdOf ty 72 = .int .u64 := rfl
theorem sz72 : szOf ty 72 = 1 := rfl
theorem ty73 : ty 73 = some ⟨.struct [(0, 72), (1, 3), (2, 3)], 3, 24, .agg [.int .u64 0, .int .i64 0, .int .i64 0]⟩ := rfl
theorem td73 : tdOf ty 73 = .struct [(0, 72), (1, 3), (2, 3)] := rfl
theorem sz73 : szOf ty 73 = 3 := rfl
theorem ty74 : ty 74 = some ⟨.struct [(0, 72), (1, 3), (2, 3)], 3, 24, .agg [.int .u64 0, .int .i64 0, .int .i64 0]⟩ := rfl
theorem td74 : tdOf ty 74 = .struct [(0, 72), (1, 3), (2, 3)] := rfl
theorem sz74 : szOf ty 74 = 3 := rfl
theorem ty75 : ty 75 = some ⟨.func, 1, 8, .nilf⟩ := rfl
theorem td75 : tdOf ty 75 = .func := rfl
theorem sz75 : szOf ty 75 = 1 := rfl
theorem ty76 : ty 76 = some ⟨.func, 1, 8, .nilf⟩ := rfl
theorem td76 : tdOf ty 76 = .func := rfl
theorem sz76 : szOf ty 76 = 1 := rfl
theorem ty77 : ty 77 = some ⟨.func, 1, 8, .nilf⟩ := rfl
theorem td77 : tdOf ty 77 = .func := rfl
theorem sz77 : szOf ty 77 = 1 := rfl
theorem ty78 : ty 78 = some ⟨.func, 1, 8, .nilf⟩ := rfl
theorem td78 : tdOf ty 78 = .func := rfl
theorem sz78 : szOf ty 78 = 1 := rfl
theorem ty79 : ty 79 = some ⟨.func, 1, 8, .nilf⟩ := rfl
theorem td79 : tdOf ty 79 = .func := rfl
theorem sz79 : szOf ty 79 = 1 := rfl
theorem ty80 : ty 80 = some ⟨.func, 1, 8, .nilf⟩ := rfl
theorem td80 : tdOf ty 80 = .func := rfl
theorem sz80 : szOf ty 80 = 1 := rfl
theorem ty82 : ty 82 = some ⟨.func, 1, 8, .nilf⟩ := rfl
theorem td82 : tdOf ty 82 = .func := rfl
theorem sz82 : szOf ty 82 = 1 := rfl
theorem ty84 : ty 84 = some ⟨.func, 1, 8, .nilf⟩ := rfl
theorem td84 : tdOf ty 84 = .func := rfl
theorem sz84 : szOf ty 84 = 1 := rfl
theorem ty86 : ty 86 = some ⟨.func, 1, 8, .nilf⟩ := rfl
theorem td86 : tdOf ty 86 = .func := rfl
theorem sz86 : szOf ty 86 = 1 := rfl
theorem ty87 : ty 87 = some ⟨.func, 1, 8, .nilf⟩ := rfl
theorem td87 : tdOf ty 87 = .func := rfl
theorem sz87 : szOf ty 87 = 1 := rfl
theorem ty88 : ty 88 = some ⟨.func, 1, 8, .nilf⟩ := rfl
theorem td88 : tdOf ty 88 = .func := rfl
theorem sz88 : szOf ty 88 = 1 := rfl
theorem ty89 : ty 89 = some ⟨.func, 1, 8, .nilf⟩ := rfl
theorem td89 : tdOf ty 89 = .func := rfl
theorem sz89 : szOf ty 89 = 1 := rfl
theorem ty90 : ty 90 = some ⟨.func, 1, 8, .nilf⟩ := rfl
theorem td90 : tdOf ty 90 = .func := rfl
theorem sz90 : szOf ty 90 = 1 := rfl
theorem ty91 : ty 91 = some ⟨.arr 2 72, 2, 16, .agg [.int .u64 0, .int .u64 0]⟩ := rfl
theorem td91 : tdOf ty 91 = .arr 2 72 := rfl
theorem sz91 : szOf ty 91 = 2 := rfl
theorem ty92 : ty 92 = some ⟨.arr 2 72, 2, 16, .agg [.int .u64 0, .int .u64 0]⟩ := rfl
theorem td92 : tdOf ty 92 = .arr 2 72 := rfl
theorem sz92 : szOf ty 92 = 2 := rfl
theorem ty93 : ty 93 = some ⟨.func, 1, 8, .nilf⟩ := rfl
theorem td93 : tdOf ty 93 = .func := rfl
theorem sz93 : szOf ty 93 = 1 := rfl
theorem ty94 : ty 94 = some ⟨.func, 1, 8, .nilf⟩ := rfl
theorem td94 : tdOf ty 94 = .func := rfl
theorem sz94 : szOf ty 94 = 1 := rfl
theorem ty95 : ty 95 = some ⟨.func, 1, 8, .nilf⟩ := rfl
theorem td95 : tdOf ty 95 = .func := rfl
theorem sz95 : szOf ty 95 = 1 := rfl
theorem ty96 : ty 96 = some ⟨.slice 72, 1, 24, .nils⟩ := rfl
theorem td96 : tdOf ty 96 = .slice 72 := rfl
theorem sz96 : szOf ty 96 = 1 := rfl
theorem ty97 : ty 97 = some ⟨.func, 1, 8, .nilf⟩ := rfl
theorem td97 : tdOf ty 97 = .func := rfl
theorem sz97 : szOf ty 97 = 1 := rfl
theorem ty98 : ty 98 = some ⟨.slice 9, 1, 24, .nils⟩ := rfl
theorem td98 : tdOf ty 98 = .slice 9 := rfl
theorem sz98 : szOf ty 98 = 1 := rfl
theorem ty99 : ty 99 = some ⟨.func, 1, 8, .nilf⟩ := rfl
theorem td99 : tdOf ty 99 = .func := rfl
theorem sz99 : szOf ty 99 = 1 := rfl
theorem ty100 : ty 100 = some ⟨.func, 1, 8, .nilf⟩ := rfl
theorem td100 : tdOf ty 100 = .func := rfl
theorem sz100 : szOf ty 100 = 1 := rfl
theorem ty101 : ty 101 = some ⟨.func, 1, 8, .nilf⟩ := rfl
theorem td101 : tdOf ty 101 = .func := rfl
theorem sz101 : szOf ty 101 = 1 := rfl
theorem ty102 : ty 102 = some ⟨.func, 1, 8, .nilf⟩ := rfl
theorem td102 : tdOf ty 102 = .func := rfl
theorem sz102 : szOf ty 102 = 1 := rfl
theorem ty103 : ty 103 = some ⟨.func, 1, 8, .nilf⟩ := rfl
theorem td103 : tdOf ty 103 = .func := rfl
theorem sz103 : szOf ty 103 = 1 := rfl
theorem ty104 : ty 104 = some ⟨.func, 1, 8, .nilf⟩ := rfl
theorem td104 : tdOf ty 104 = .func := rfl
theorem sz104 : szOf ty 104 = 1 := rfl
theorem ty105 : ty 105 = some ⟨.func, 1, 8, .nilf⟩ := rfl
theorem td105 : tdOf ty 105 = .func := rfl
theorem sz105 : szOf ty 105 = 1 := rfl
theorem ty106 : ty 106 = some ⟨.func, 1, 8, .nilf⟩ := rfl
theorem td106 : tdOf ty 106 = .func := rfl
theorem sz106 : szOf ty 106 = 1 := rfl
theorem ty107 : ty 107 = some ⟨.func, 1, 8, .nilf⟩ := rfl
theorem td107 : tdOf ty 107 = .func := rfl
theorem sz107 : szOf ty 107 = 1 := rfl
theorem ty108 : ty 108 = some ⟨.func, 1, 8, .nilf⟩ := rfl
theorem td108 : tdOf ty 108 = .func := rfl
theorem sz108 : szOf ty 108 = 1 := rfl
theorem ty109 : ty 109 = some ⟨.ptr 113, 1, 8, .nilp⟩ := rfl
theorem td109 : tdOf ty 109 = .ptr 113 := rfl
theorem sz109 : szOf ty 109 = 1 := rfl
theorem ty110 : ty 110 = some ⟨.func, 1, 8, .nilf⟩ := rfl
theorem td110 : tdOf ty 110 = .func := rfl
theorem sz110 : szOf ty 110 = 1 := rfl
theorem ty111 : ty 111 = some ⟨.ptr 109, 1, 8, .nilp⟩ := rfl
theorem td111 : tdOf ty 111 = .ptr 109 := rfl
theorem sz111 : szOf ty 111 = 1 := rfl
theorem ty112 : ty 112 = some ⟨.struct [(0, 9), (1, 3), (2, 33), (3, 30)], 4, 48, .agg [.str ⟨#[]⟩, .int .i64 0, .int .i64 0, .nili]⟩ := rfl
theorem td112 : tdOf ty 112 = .struct [(0, 9), (1, 3), (2, 33), (3, 30)] := rfl
theorem sz112 : szOf ty 112 = 4 := rfl
theorem ty113 : ty 113 = some ⟨.struct [(0, 9), (1, 3), (2, 33), (3, 30)], 4, 48, .agg [.str ⟨#[]⟩, .int .i64 0, .int .i64 0, .nili]⟩ := rfl
theorem td113 : tdOf ty 113 = .struct [(0, 9), (1, 3), (2, 33), (3, 30)] := rfl
theorem sz113 : szOf ty 113 = 4 := rfl
theorem ty114 : ty 114 = some ⟨.func, 1, 8, .nilf⟩ := rfl
theorem td114 : tdOf ty 114 = .func := rfl
theorem sz114 : szOf ty 114 = 1 := rfl
theorem ty115 : ty 115 = some ⟨.func, 1, 8, .nilf⟩ := rfl
theorem td115 : tdOf ty 115 = .func := rfl
theorem sz115 : szOf ty 115 = 1 := rfl
theorem ty116 : ty 116 = some ⟨.func, 1, 8, .nilf⟩ := rfl
theorem td116 : tdOf ty 116 = .func := rfl
theorem sz116 : szOf ty 116 = 1 := rfl
theorem ty117 : ty 117 = some ⟨.func, 1, 8, .nilf⟩ := rfl
theorem td117 : tdOf ty 117 = .func := rfl
theorem sz117 : szOf ty 117 = 1 := rfl
theorem ty118 : ty 118 = some ⟨.func, 1, 8, .nilf⟩ := rfl
theorem td118 : tdOf ty 118 = .func := rfl
theorem sz118 : szOf ty 118 = 1 := rfl
theorem ty119 : ty 119 = some ⟨.func, 1, 8, .nilf⟩ := rfl
theorem td119 : tdOf ty 119 = .func := rfl
theorem sz119 : szOf ty 119 = 1 := rfl
theorem ty120 : ty 120 = some ⟨.ptr 170, 1, 8, .nilp⟩ := rfl
theorem td120 : tdOf ty 120 = .ptr 170 := rfl
theorem sz120 : szOf ty 120 = 1 := rfl
theorem ty121 : ty 121 = some ⟨.func, 1, 8, .nilf⟩ := rfl
theorem td121 : tdOf ty 121 = .func := rfl
theorem sz121 : szOf ty 121 = 1 := rfl
theorem ty122 : ty 122 = some ⟨.func, 1, 8, .nilf⟩ := rfl
theorem td122 : tdOf ty 122 = .func := rfl
theorem sz122 : szOf ty 122 = 1 := rfl
theorem ty123 : ty 123 = some ⟨.func, 1, 8, .nilf⟩ := rfl
theorem td123 : tdOf ty 123 = .func := rfl
theorem sz123 : szOf ty 123 = 1 := rfl
theorem ty126 : ty 126 = some ⟨.struct [(0, 22), (1, 3), (2, 33)], 3, 40, .agg [.nils, .int .i64 0, .int .i64 0]⟩ := rfl
theorem td126 : tdOf ty 126 = .struct [(0, 22), (1, 3), (2, 33)] := rfl
theorem sz126 : szOf ty 126 = 3 := rfl
theorem ty127 : ty 127 = some ⟨.struct [(0, 22), (1, 3), (2, 33)], 3, 40, .agg [.nils, .int .i64 0, .int .i64 0]⟩ := rfl
theorem td127 : tdOf ty 127 = .struct [(0, 22), (1, 3), (2, 33)] := rfl
theorem sz127 : szOf ty 127 = 3 := rfl
theorem ty132 : ty 132 = some ⟨.func, 1, 8, .nilf⟩ := rfl
theorem td132 : tdOf ty 132 = .func := rfl
theorem sz132 : szOf ty 132 = 1 := rfl
theorem ty134 : ty 134 = some ⟨.func, 1, 8, .nilf⟩ := rfl
theorem td134 : tdOf ty 134 = .func := rfl
theorem sz134 : szOf ty 134 = 1 := rfl
theorem ty136 : ty 136 = some ⟨.func, 1, 8, .nilf⟩ := rfl
theorem td136 : tdOf ty 136 = .func := rfl
theorem sz136 : szOf ty 136 = 1 := rfl
theorem ty137 : ty 137 = some ⟨.func, 1, 8, .nilf⟩ := rfl
theorem td137 : tdOf ty 137 = .func := rfl
theorem sz137 : szOf ty 137 = 1 := rfl
theorem ty138 : ty 138 = some ⟨.func, 1, 8, .nilf⟩ := rfl
theorem td138 : tdOf ty 138 = .func := rfl
theorem sz138 : szOf ty 138 = 1 := rfl
theorem ty139 : ty 139 = some ⟨.func, 1, 8, .nilf⟩ := rfl
theorem td139 : tdOf ty 139 = .func := rfl
theorem sz139 : szOf ty 139 = 1 := rfl
theorem ty140 : ty 140 = some ⟨.func, 1, 8, .nilf⟩ := rfl
theorem td140 : tdOf ty 140 = .func := rfl
theorem sz140 : szOf ty 140 = 1 := rfl
theorem ty141 : ty 141 = some ⟨.func, 1, 8, .nilf⟩ := rfl
theorem td141 : tdOf ty 141 = .func := rfl
theorem sz141 : szOf ty 141 = 1 := rfl
theorem ty142 : ty 142 = some ⟨.func, 1, 8, .nilf⟩ := rfl
theorem td142 : tdOf ty 142 = .func := rfl
theorem sz142 : szOf ty 142 = 1 := rfl
theorem ty143 : ty 143 = some ⟨.func, 1, 8, .nilf⟩ := rfl
theorem td143 : tdOf ty 143 = .func := rfl
theorem sz143 : szOf ty 143 = 1 := rfl
theorem ty144 : ty 144 = some ⟨.func, 1, 8, .nilf⟩ := rfl
theorem td144 : tdOf ty 144 = .func := rfl
theorem sz144 : szOf ty 144 = 1 := rfl
theorem ty145 : ty 145 = some ⟨.func, 1, 8, .nilf⟩ := rfl
theorem td145 : tdOf ty 145 = .func := rfl
theorem sz145 : szOf ty 145 = 1 := rfl
theorem ty146 : ty 146 = some ⟨.func, 1, 8, .nilf⟩ := rfl
theorem td146 : tdOf ty 146 = .func := rfl
theorem sz146 : szOf ty 146 = 1 := rfl
theorem ty147 : ty 147 = some ⟨.func, 1, 8, .nilf⟩ := rfl
theorem td147 : tdOf ty 147 = .func := rfl
theorem sz147 : szOf ty 147 = 1 := rfl
theorem ty148 : ty 148 = some ⟨.func, 1, 8, .nilf⟩ := rfl
theorem td148 : tdOf ty 148 = .func := rfl
theorem sz148 : szOf ty 148 = 1 := rfl
theorem ty149 : ty 149 = some ⟨.arr 3 3, 3, 24, .agg [.int .i64 0, .int .i64 0, .int .i64 0]⟩ := rfl
theorem td149 : tdOf ty 149 = .arr 3 3 := rfl
theorem sz149 : szOf ty 149 = 3 := rfl
theorem ty150 : ty 150 = some ⟨.func, 1, 8, .nilf⟩ := rfl
theorem td150 : tdOf ty 150 = .func := rfl
theorem sz150 : szOf ty 150 = 1 := rfl
theorem ty151 : ty 151 = some ⟨.int .u64, 1, 8, .int .u64 0⟩ := rfl
theorem td151 : tdOf ty 151 = .int .u64 := rfl
theorem sz151 : szOf ty 151 = 1 := rfl
theorem ty152 : ty 152 = some ⟨.func, 1, 8, .nilf⟩ := rfl
theorem td152 : tdOf ty 152 = .func := rfl
theorem sz152 : szOf ty 152 = 1 := rfl
theorem ty153 : ty 153 = some ⟨.func, 1, 8, .nilf⟩ := rfl
theorem td153 : tdOf ty 153 = .func := rfl
theorem sz153 : szOf ty 153 = 1 := rfl
theorem ty154 : ty 154 = some ⟨.arr 4 5, 4, 4, .agg [.int .u8 0, .int .u8 0, .int .u8 0, .int .u8 0]⟩ := rfl
theorem td154 : tdOf ty 154 = .arr 4 5 := rfl
theorem sz154 : szOf ty 154 = 4 := rfl
theorem ty155 : ty 155 = some ⟨.func, 1, 8, .nilf⟩ := rfl
theorem td155 : tdOf ty 155 = .func := rfl
theorem sz155 : szOf ty 155 = 1 := rfl
theorem ty157 : ty 157 = some ⟨.int .u64, 1, 8, .int .u64 0⟩ := rfl
theorem td157 : tdOf ty 157 = .int .u64 := rfl
theorem sz157 : szOf ty 157 = 1 := rfl
theorem ty160 : ty 160 = some ⟨.func, 1, 8, .nilf⟩ := rfl
theorem td160 : tdOf ty 160 = .func := rfl
theorem sz160 : szOf ty 160 = 1 := rfl
theorem ty161 : ty 161 = some ⟨.iface, 1, 16, .nili⟩ := rfl
theorem td161 : tdOf ty 161 = .iface := rfl
theorem sz161 : szOf ty 161 = 1 := rfl
theorem ty163 : ty 163 = some ⟨.func, 1, 8, .nilf⟩ := rfl
theorem td163 : tdOf ty 163 = .func := rfl
theorem sz163 : szOf ty 163 = 1 := rfl
theorem ty164 : ty 164 = some ⟨.int .u8, 1, 1, .int .u8 0⟩ := rfl
theorem td164 : tdOf ty 164 = .int .u8 := rfl
theorem sz164 : szOf ty 164 = 1 := rfl
theorem ty168 : ty 168 = some ⟨.func, 1, 8, .nilf⟩ := rfl
theorem td168 : tdOf ty 168 = .func := rfl
theorem sz168 : szOf ty 168 = 1 := rfl
theorem ty169 : ty 169 = some ⟨.struct [(0, 22), (1, 3), (2, 33)], 3, 40, .agg [.nils, .int .i64 0, .int .i64 0]⟩ := rfl
theorem td169 : tdOf ty 169 = .struct [(0, 22), (1, 3), (2, 33)] := rfl
theorem sz169 : szOf ty 169 = 3 := rfl
theorem ty170 : ty 170 = some ⟨.struct [(0, 22), (1, 3), (2, 33)], 3, 40, .agg [.nils, .int .i64 0, .int .i64 0]⟩ := rfl
theorem td170 : tdOf ty 170 = .struct [(0, 22), (1, 3), (2, 33)] := rfl
theorem sz170 : szOf ty 170 = 3 := rfl
theorem ty181 : ty 181 = some ⟨.struct [(0, 17)], 1, 8, .agg [.nilp]⟩ := rfl
theorem td181 : tdOf ty 181 = .struct [(0, 17)] := rfl
theorem sz181 : szOf ty 181 = 1 := rfl
theorem ty205 : ty 205 = some ⟨.int .i32, 1, 4, .int .i32 0⟩ := rfl
theorem td205 : tdOf ty 205 = .int .i32 := rfl
theorem sz205 : szOf ty 205 = 1 := rfl
theorem ty206 : ty 206 = some ⟨.int .i32, 1, 4, .int .i32 0⟩ := rfl
theorem td206 : tdOf ty 206 = .int .i32 := rfl
theorem sz206 : szOf ty 206 = 1 := rfl
theorem ty211 : ty 211 = some ⟨.struct [(0, 9), (1, 164)], 2, 24, .agg [.str ⟨#[]⟩, .int .u8 0]⟩ := rfl
theorem td211 : tdOf ty 211 = .struct [(0, 9), (1, 164)] := rfl
theorem sz211 : szOf ty 211 = 2 := rfl
theorem ty212 : ty 212 = some ⟨.struct [(0, 9), (1, 164)], 2, 24, .agg [.str ⟨#[]⟩, .int .u8 0]⟩ := rfl
theorem td212 : tdOf ty 212 = .struct [(0, 9), (1, 164)] := rfl
theorem sz212 : szOf ty 212 = 2 := rfl
theorem ty218 : ty 218 = some ⟨.int .i32, 1, 4, .int .i32 0⟩ := rfl
theorem td218 : tdOf ty 218 = .int .i32 := rfl
theorem sz218 : szOf ty 218 = 1 := rfl
theorem ty219 : ty 219 = some ⟨.struct [(0, 205), (1, 206), (2, 218), (3, 218)], 4, 16, .agg [.int .i32 0, .int .i32 0, .int .i32 0, .int .i32 0]⟩ := rfl
theorem td219 : tdOf ty 219 = .struct [(0, 205), (1, 206), (2, 218), (3, 218)] := rfl
theorem sz219 : szOf ty 219 = 4 := rfl
theorem ty220 : ty 220 = some ⟨.struct [(0, 205), (1, 206), (2, 218), (3, 218)], 4, 16, .agg [.int .i32 0, .int .i32 0, .int .i32 0, .int .i32 0]⟩ := rfl
theorem td220 : tdOf ty 220 = .struct [(0, 205), (1, 206), (2, 218), (3, 218)] := rfl
theorem sz220 : szOf ty 220 = 4 := rfl
theorem ok1 : TiOk Tryd.prog 1 ⟨.func, 1, 8, .nilf⟩ := tiOk_mk (.nilFunc) ⟨_, _, _, Tryd.underlying1⟩ (by kernel_rfl) rfl rfl rfl (by simp [Value.cells, Value.oneCell'])
theorem ok2 : TiOk Tryd.prog 2 ⟨.int .i64, 1, 8, .int .i64 0⟩ := tiOk_mk (.int .i64 0) Tryd.underlying2 (by kernel_rfl) rfl rfl rfl (by simp [Value.cells, Value.oneCell'])
theorem ok3 : TiOk Tryd.prog 3 ⟨.int .i64, 1, 8, .int .i64 0⟩ := tiOk_mk (.int .i64 0) Tryd.underlying3 (by kernel_rfl) rfl rfl rfl (by simp [Value.cells, Value.oneCell'])
theorem ok4 : TiOk Tryd.prog 4 ⟨.bool, 1, 1, .bool false⟩ := tiOk_mk (.bool false) Tryd.underlying4 (by kernel_rfl) rfl rfl rfl (by simp [Value.cells, Value.oneCell'])
theorem ok5 : TiOk Tryd.prog 5 ⟨.int .u8, 1, 1, .int .u8 0⟩ := tiOk_mk (.int .u8 0) Tryd.underlying5 (by kernel_rfl) rfl rfl rfl (by simp [Value.cells, Value.oneCell'])
theorem ok6 : TiOk Tryd.prog 6 ⟨.int .u8, 1, 1, .int .u8 0⟩ := tiOk_mk (.int .u8 0) Tryd.underlying6 (by kernel_rfl) rfl rfl rfl (by simp [Value.cells, Value.oneCell'])
theorem ok7 : TiOk Tryd.prog 7 ⟨.struct [(0, 2), (1, 3), (2, 4), (3, 6)], 4, 24, .agg [.int .i64 0, .int .i64 0, .bool false, .int .u8 0]⟩ := tiOk_mk (.agg #[.int .i64 0, .int .i64 0, .bool false, .int .u8 0]) ⟨_, Tryd.underlying7, rfl⟩ (by kernel_rfl) rfl rfl rfl (by simp [Value.cells, Value.oneCell'])
theorem ok8 : TiOk Tryd.prog 8 ⟨.struct [(0, 2), (1, 3), (2, 4), (3, 6)], 4, 24, .agg [.int .i64 0, .int .i64 0, .bool false, .int .u8 0]⟩ := tiOk_mk (.agg #[.int .i64 0, .int .i64 0, .bool false, .int .u8 0]) ⟨_, Tryd.underlying8, rfl⟩ (by kernel_rfl) rfl rfl rfl (by simp [Value.cells, Value.oneCell'])
theorem ok9 : TiOk Tryd.prog 9 ⟨.str, 1, 16, .str ⟨#[]⟩⟩ := tiOk_mk (.string ⟨#[]⟩) Tryd.underlying9 (by kernel_rfl) rfl rfl rfl (by simp [Value.cells, Value.oneCell'])
theorem ok10 : TiOk Tryd.prog 10 ⟨.str, 1, 16, .str ⟨#[]⟩⟩ := tiOk_mk (.string ⟨#[]⟩) Tryd.underlying10 (by kernel_rfl) rfl rfl rfl (by simp [Value.cells, Value.oneCell'])
theorem ok11 : TiOk Tryd.prog 11 ⟨.str, 1, 16, .str ⟨#[]⟩⟩ := tiOk_mk (.string ⟨#[]⟩) Tryd.underlying11 (by kernel_rfl) rfl rfl rfl (by simp [Value.cells, Value.oneCell'])
theorem ok12 : TiOk Tryd.prog 12 ⟨.int .u64, 1, 8, .int .u64 0⟩ := tiOk_mk (.int .u64 0) Tryd.underlying12 (by kernel_rfl) rfl rfl rfl (by simp [Value.cells, Value.oneCell'])
theorem ok13 : TiOk Tryd.prog 13 ⟨.struct [(0, 9), (1, 12)], 2, 24, .agg [.str ⟨#[]⟩, .int .u64 0]⟩ := tiOk_mk (.agg #[.string ⟨#[]⟩, .int .u64 0]) ⟨_, Tryd.underlying13, rfl⟩ (by kernel_rfl) rfl rfl rfl (by simp [Value.cells, Value.oneCell'])
theorem ok14 : TiOk Tryd.prog 14 ⟨.struct [(0, 9), (1, 12)], 2, 24, .agg [.str ⟨#[]⟩, .int .u64 0]⟩ := tiOk_mk (.agg #[.string ⟨#[]⟩, .int .u64 0]) ⟨_, Tryd.underlying14, rfl⟩ (by kernel_rfl) rfl rfl rfl (by simp [Value.cells, Value.oneCell'])
theorem ok15 : TiOk Tryd.prog 15 ⟨.ptr 197, 1, 8, .nilp⟩ := tiOk_mk (.pointer none) Tryd.underlying15 (by kernel_rfl) rfl rfl rfl (by simp [Value.cells, Value.oneCell'])
theorem ok16 : TiOk Tryd.prog 16 ⟨.ptr 200, 1, 8, .nilp⟩ := tiOk_mk (.pointer none) Tryd.underlying16 (by kernel_rfl) rfl rfl rfl (by simp [Value.cells, Value.oneCell'])
theorem ok17 : TiOk Tryd.prog 17 ⟨.ptr 208, 1, 8, .nilp⟩ := tiOk_mk (.pointer none) Tryd.underlying17 (by kernel_rfl) rfl rfl rfl (by simp [Value.cells, Value.oneCell'])
theorem ok18 : TiOk Tryd.prog 18 ⟨.struct [(0, 17)], 1, 8, .agg [.nilp]⟩ := tiOk_mk (.agg #[.pointer none]) ⟨_, Tryd.underlying18, rfl⟩ (by kernel_rfl) rfl rfl rfl (by simp [Value.cells, Value.oneCell'])
theorem ok19 : TiOk Tryd.prog 19 ⟨.struct [(0, 17)], 1, 8, .agg [.nilp]⟩ := tiOk_mk (.agg #[.pointer none]) ⟨_, Tryd.underlying19, rfl⟩ (by kernel_rfl) rfl rfl rfl (by simp [Value.cells, Value.oneCell'])
theorem ok20 : TiOk Tryd.prog 20 ⟨.iface, 1, 16, .nili⟩ := tiOk_mk (.nilIface) ⟨_, Tryd.underlying20⟩ (by kernel_rfl) rfl rfl rfl (by simp [Value.cells, Value.oneCell'])
theorem ok21 : TiOk Tryd.prog 21 ⟨.int .i32, 1, 4, .int .i32 0⟩ := tiOk_mk (.int .i32 0) Tryd.underlying21 (by kernel_rfl) rfl rfl rfl (by simp [Value.cells, Value.oneCell'])
theorem ok22 : TiOk Tryd.prog 22 ⟨.slice 5, 1, 24, .nils⟩ := tiOk_mk (.slice none 0 0) Tryd.underlying22 (by kernel_rfl) rfl rfl rfl (by simp [Value.cells, Value.oneCell'])
theorem ok23 : TiOk Tryd.prog 23 ⟨.struct [(0, 9), (1, 3), (2, 3), (3, 3), (4, 22)], 5, 64, .agg [.str ⟨#[]⟩, .int .i64 0, .int .i64 0, .int .i64 0, .nils]⟩ := tiOk_mk (.agg #[.string ⟨#[]⟩, .int .i64 0, .int .i64 0, .int .i64 0, .slice none 0 0]) ⟨_, Tryd.underlying23, rfl⟩ (by kernel_rfl) rfl rfl rfl (by simp [Value.cells, Value.oneCell'])
theorem ok24 : TiOk Tryd.prog 24 ⟨.struct [(0, 9), (1, 3), (2, 3), (3, 3), (4, 22)], 5, 64, .agg [.str ⟨#[]⟩, .int .i64 0, .int .i64 0, .int .i64 0, .nils]⟩ := tiOk_mk (.agg #[.string ⟨#[]⟩, .int .i64 0, .int .i64 0, .int .i64 0, .slice none 0 0]) ⟨_, Tryd.underlying24, rfl⟩ (by kernel_rfl) rfl rfl rfl (by simp [Value.cells, Value.oneCell'])
theorem ok25 : TiOk Tryd.prog 25 ⟨.struct [(0, 3), (1, 3), (2, 3), (3, 3), (4, 3), (5, 24), (10, 4)], 11, 112, .agg [.int .i64 0, .int .i64 0, .int .i64 0, .int .i64 0, .int .i64 0, .str ⟨#[]⟩, .int .i64 0, .int .i64 0, .int .i64 0, .nils, .bool false]⟩ := tiOk_mk (.agg #[.int .i64 0, .int .i64 0, .int .i64 0, .int .i64 0, .int .i64 0, .string ⟨#[]⟩, .int .i64 0, .int .i64 0, .int .i64 0, .slice none 0 0, .bool false]) ⟨_, Tryd.underlying25, rfl⟩ (by kernel_rfl) rfl rfl rfl (by simp [Value.cells, Value.oneCell'])
theorem ok26 : TiOk Tryd.prog 26 ⟨.struct [(0, 3), (1, 3), (2, 3), (3, 3), (4, 3), (5, 24), (10, 4)], 11, 112, .agg [.int .i64 0, .int .i64 0, .int .i64 0, .int .i64 0, .int .i64 0, .str ⟨#[]⟩, .int .i64 0, .int .i64 0, .int .i64 0, .nils, .bool false]⟩ := tiOk_mk (.agg #[.int .i64 0, .int .i64 0, .int .i64 0, .int .i64 0, .int .i64 0, .string ⟨#[]⟩, .int .i64 0, .int .i64 0, .int .i64 0, .slice none 0 0, .bool false]) ⟨_, Tryd.underlying26, rfl⟩ (by kernel_rfl) rfl rfl rfl (by simp [Value.cells, Value.oneCell'])
theorem ok27 : TiOk Tryd.prog 27 ⟨.func, 1, 8, .nilf⟩ := tiOk_mk (.nilFunc) ⟨_, _, _, Tryd.underlying27⟩ (by kernel_rfl) rfl rfl rfl (by simp [Value.cells, Value.oneCell'])
theorem ok28 : TiOk Tryd.prog 28 ⟨.func, 1, 8, .nilf⟩ := tiOk_mk (.nilFunc) ⟨_, _, _, Tryd.underlying28⟩ (by kernel_rfl) rfl rfl rfl (by simp [Value.cells, Value.oneCell'])
theorem ok29 : TiOk Tryd.prog 29 ⟨.iface, 1, 16, .nili⟩ := tiOk_mk (.nilIface) ⟨_, Tryd.underlying29⟩ (by kernel_rfl) rfl rfl rfl (by simp [Value.cells, Value.oneCell'])
theorem ok30 : TiOk Tryd.prog 30 ⟨.iface, 1, 16, .nili⟩ := tiOk_mk (.nilIface) ⟨_, Tryd.underlying30⟩ (by kernel_rfl) rfl rfl rfl (by simp [Value.cells, Value.oneCell'])
theorem ok32 : TiOk Tryd.prog 32 ⟨.func, 1, 8, .nilf⟩ := tiOk_mk (.nilFunc) ⟨_, _, _, Tryd.underlying32⟩ (by kernel_rfl) rfl rfl rfl (by simp [Value.cells, Value.oneCell'])
theorem ok33 : TiOk Tryd.prog 33 ⟨.int .i64, 1, 8, .int .i64 0⟩ := tiOk_mk (.int .i64 0) Tryd.underlying33 (by kernel_rfl) rfl rfl rfl (by simp [Value.cells, Value.oneCell'])
theorem ok35 : TiOk Tryd.prog 35 ⟨.func, 1, 8, .nilf⟩ := tiOk_mk (.nilFunc) ⟨_, _, _, Tryd.underlying35⟩ (by kernel_rfl) rfl rfl rfl (by simp [Value.cells, Value.oneCell'])
theorem ok36 : TiOk Tryd.prog 36 ⟨.func, 1, 8, .nilf⟩ := tiOk_mk (.nilFunc) ⟨_, _, _, Tryd.underlying36⟩ (by kernel_rfl) rfl rfl rfl (by simp [Value.cells, Value.oneCell'])
theorem ok37 : TiOk Tryd.prog 37 ⟨.func, 1, 8, .nilf⟩ := tiOk_mk (.nilFunc) ⟨_, _, _, Tryd.underlying37⟩ (by kernel_rfl) rfl rfl rfl (by simp [Value.cells, Value.oneCell'])
theorem ok38 : TiOk Tryd.prog 38 ⟨.func, 1, 8, .nilf⟩ := tiOk_mk (.nilFunc) ⟨_, _, _, Tryd.underlying38⟩ (by kernel_rfl) rfl rfl rfl (by simp [Value.cells, Value.oneCell'])
theorem ok39 : TiOk Tryd.prog 39 ⟨.func, 1, 8, .nilf⟩ := tiOk_mk (.nilFunc) ⟨_, _, _, Tryd.underlying39⟩ (by kernel_rfl) rfl rfl rfl (by simp [Value.cells, Value.oneCell'])
theorem ok40 : TiOk Tryd.prog 40 ⟨.func, 1, 8, .nilf⟩ := tiOk_mk (.nilFunc) ⟨_, _, _, Tryd.underlying40⟩ (by kernel_rfl) rfl rfl rfl (by simp [Value.cells, Value.oneCell'])
theorem ok41 : TiOk Tryd.prog 41 ⟨.func, 1, 8, .nilf⟩ := tiOk_mk (.nilFunc) ⟨_, _, _, Tryd.underlying41⟩ (by kernel_rfl) rfl rfl rfl (by simp [Value.cells, Value.oneCell'])
theorem ok43 : TiOk Tryd.prog 43 ⟨.func, 1, 8, .nilf⟩ := tiOk_mk (.nilFunc) ⟨_, _, _, Tryd.underlying43⟩ (by kernel_rfl) rfl rfl rfl (by simp [Value.cells, Value.oneCell'])
theorem ok45 : TiOk Tryd.prog 45 ⟨.func, 1, 8, .nilf⟩ := tiOk_mk (.nilFunc) ⟨_, _, _, Tryd.underlying45⟩ (by kernel_rfl) rfl rfl rfl (by simp [Value.cells, Value.oneCell'])
theorem ok46 : TiOk Tryd.prog 46 ⟨.func, 1, 8, .nilf⟩ := tiOk_mk (.nilFunc) ⟨_, _, _, Tryd.underlying46⟩ (by kernel_rfl) rfl rfl rfl (by simp [Value.cells, Value.oneCell'])
theorem ok47 : TiOk Tryd.prog 47 ⟨.func, 1, 8, .nilf⟩ := tiOk_mk (.nilFunc) ⟨_, _, _, Tryd.underlying47⟩ (by kernel_rfl) rfl rfl rfl (by simp [Value.cells, Value.oneCell'])
theorem ok48 : TiOk Tryd.prog 48 ⟨.int .u16, 1, 2, .int .u16 0⟩ := tiOk_mk (.int .u16 0) Tryd.underlying48 (by kernel_rfl) rfl rfl rfl (by simp [Value.cells, Value.oneCell'])
theorem ok49 : TiOk Tryd.prog 49 ⟨.int .u32, 1, 4, .int .u32 0⟩ := tiOk_mk (.int .u32 0) Tryd.underlying49 (by kernel_rfl) rfl rfl rfl (by simp [Value.cells, Value.oneCell'])
theorem ok50 : TiOk Tryd.prog 50 ⟨.func, 1, 8, .nilf⟩ := tiOk_mk (.nilFunc) ⟨_, _, _, Tryd.underlying50⟩ (by kernel_rfl) rfl rfl rfl (by simp [Value.cells, Value.oneCell'])
theorem ok51 : TiOk Tryd.prog 51 ⟨.slice 3, 1, 24, .nils⟩ := tiOk_mk (.slice none 0 0) Tryd.underlying51 (by kernel_rfl) rfl rfl rfl (by simp [Value.cells, Value.oneCell'])
theorem ok52 : TiOk Tryd.prog 52 ⟨.struct [(0, 3), (1, 3), (2, 3), (3, 51)], 4, 48, .agg [.int .i64 0, .int .i64 0, .int .i64 0, .nils]⟩ := tiOk_mk (.agg #[.int .i64 0, .int .i64 0, .int .i64 0, .slice none 0 0]) ⟨_, Tryd.underlying52, rfl⟩ (by kernel_rfl) rfl rfl rfl (by simp [Value.cells, Value.oneCell'])
theorem ok53 : TiOk Tryd.prog 53 ⟨.struct [(0, 3), (1, 3), (2, 3), (3, 51)], 4, 48, .agg [.int .i64 0, .int .i64 0, .int .i64 0, .nils]⟩ := tiOk_mk (.agg #[.int .i64 0, .int .i64 0, .int .i64 0, .slice none 0 0]) ⟨_, Tryd.underlying53, rfl⟩ (by kernel_rfl) rfl rfl rfl (by simp [Value.cells, Value.oneCell'])
theorem ok54 : TiOk Tryd.prog 54 ⟨.func, 1, 8, .nilf⟩ := tiOk_mk (.nilFunc) ⟨_, _, _, Tryd.underlying54⟩ (by kernel_rfl) rfl rfl rfl (by simp [Value.cells, Value.oneCell'])
theorem ok55 : TiOk Tryd.prog 55 ⟨.func, 1, 8, .nilf⟩ := tiOk_mk (.nilFunc) ⟨_, _, _, Tryd.underlying55⟩ (by kernel_rfl) rfl rfl rfl (by simp [Value.cells, Value.oneCell'])
theorem ok57 : TiOk Tryd.prog 57 ⟨.func, 1, 8, .nilf⟩ := tiOk_mk (.nilFunc) ⟨_, _, _, Tryd.underlying57⟩ (by kernel_rfl) rfl rfl rfl (by simp [Value.cells, Value.oneCell'])
theorem ok58 : TiOk Tryd.prog 58 ⟨.func, 1, 8, .nilf⟩ := tiOk_mk (.nilFunc) ⟨_, _, _, Tryd.underlying58⟩ (by kernel_rfl) rfl rfl rfl (by simp [Value.cells, Value.oneCell'])
theorem ok59 : TiOk Tryd.prog 59 ⟨.func, 1, 8, .nilf⟩ := tiOk_mk (.nilFunc) ⟨_, _, _, Tryd.underlying59⟩ (by kernel_rfl) rfl rfl rfl (by simp [Value.cells, Value.oneCell'])
theorem ok60 : TiOk Tryd.prog 60 ⟨.slice 24, 1, 24, .nils⟩ := tiOk_mk (.slice none 0 0) Tryd.underlying60 (by kernel_rfl) rfl rfl rfl (by simp [Value.cells, Value.oneCell'])
theorem ok61 : TiOk Tryd.prog 61 ⟨.func, 1, 8, .nilf⟩ := tiOk_mk (.nilFunc) ⟨_, _, _, Tryd.underlying61⟩ (by kernel_rfl) rfl rfl rfl (by simp [Value.cells, Value.oneCell'])
theorem ok62 : TiOk Tryd.prog 62 ⟨.slice 22, 1, 24, .nils⟩ := tiOk_mk (.slice none 0 0) Tryd.underlying62 (by kernel_rfl) rfl rfl rfl (by simp [Value.cells, Value.oneCell'])
theorem ok63 : TiOk Tryd.prog 63 ⟨.func, 1, 8, .nilf⟩ := tiOk_mk (.nilFunc) ⟨_, _, _, Tryd.underlying63⟩ (by kernel_rfl) rfl rfl rfl (by simp [Value.cells, Value.oneCell'])
theorem ok65 : TiOk Tryd.prog 65 ⟨.func, 1, 8, .nilf⟩ := tiOk_mk (.nilFunc) ⟨_, _, _, Tryd.underlying65⟩ (by kernel_rfl) rfl rfl rfl (by simp [Value.cells, Value.oneCell'])
theorem ok67 : TiOk Tryd.prog 67 ⟨.func, 1, 8, .nilf⟩ := tiOk_mk (.nilFunc) ⟨_, _, _, Tryd.underlying67⟩ (by kernel_rfl) rfl rfl rfl (by simp [Value.cells, Value.oneCell'])
theorem ok68 : TiOk Tryd.prog 68 ⟨.func, 1, 8, .nilf⟩ := tiOk_mk (.nilFunc) ⟨_, _, _, Tryd.underlying68⟩ (by kernel_rfl) rfl rfl rfl (by simp [Value.cells, Value.oneCell'])
theorem ok69 : TiOk Tryd.prog 69 ⟨.func, 1, 8, .nilf⟩ := tiOk_mk (.nilFunc) ⟨_, _, _, Tryd.underlying69⟩ (by kernel_rfl) rfl rfl rfl (by simp [Value.cells, Value.oneCell'])
theorem ok70 : TiOk Tryd.prog 70 ⟨.slice 74, 1, 24, .nils⟩ := tiOk_mk (.slice none 0 0) Tryd.underlying70 (by kernel_rfl) rfl rfl rfl (by simp [Value.cells, Value.oneCell'])
theorem ok71 : TiOk Tryd.prog 71 ⟨.func, 1, 8, .nilf⟩ := tiOk_mk (.nilFunc) ⟨_, _, _, Tryd.underlying71⟩ (by kernel_rfl) rfl rfl rfl (by simp [Value.cells, Value.oneCell'])
theorem ok72 : TiOk Tryd.prog 72 ⟨.int .u64, 1, 8, .int .u64 0⟩ := tiOk_mk (.int .u64 0) Tryd.underlying72 (by kernel_rfl) rfl rfl rfl (by simp [Value.cells, Value.oneCell'])
theorem ok73 : TiOk Tryd.prog 73 ⟨.struct [(0, 72), (1, 3), (2, 3)], 3, 24, .agg [.int .u64 0, .int .i64 0, .int .i64 0]⟩ := tiOk_mk (.agg #[.int .u64 0, .int .i64 0, .int .i64 0]) ⟨_, Tryd.underlying73, rfl⟩ (by kernel_rfl) rfl rfl rfl (by simp [Value.cells, Value.oneCell'])
theorem ok74 : TiOk Tryd.prog 74 ⟨.struct [(0, 72), (1, 3), (2, 3)], 3, 24, .agg [.int .u64 0, .int .i64 0, .int .i64 0]⟩ := tiOk_mk (.agg #[.int .u64 0, .int .i64 0, .int .i64 0]) ⟨_, Tryd.underlying74, rfl⟩ (by kernel_rfl) rfl rfl rfl (by simp [Value.cells, Value.oneCell'])
theorem ok75 : TiOk Tryd.prog 75 ⟨.func, 1, 8, .nilf⟩ := tiOk_mk (.nilFunc) ⟨_, _, _, Tryd.underlying75⟩ (by kernel_rfl) rfl rfl rfl (by simp [Value.cells, Value.oneCell'])
theorem ok76 : TiOk Tryd.prog 76 ⟨.func, 1, 8, .nilf⟩ := tiOk_mk (.nilFunc) ⟨_, _, _, Tryd.underlying76⟩ (by kernel_rfl) rfl rfl rfl (by simp [Value.cells, Value.oneCell'])
theorem ok77 : TiOk Tryd.prog 77 ⟨.func, 1, 8, .nilf⟩ := tiOk_mk (.nilFunc) ⟨_, _, _, Tryd.underlying77⟩ (by kernel_rfl) rfl rfl rfl (by simp [Value.cells, Value.oneCell'])
theorem ok78 : TiOk Tryd.prog 78 ⟨.func, 1, 8, .nilf⟩ := tiOk_mk (.nilFunc) ⟨_, _, _, Tryd.underlying78⟩ (by kernel_rfl) rfl rfl rfl (by simp [Value.cells, Value.oneCell'])
theorem ok79 : TiOk Tryd.prog 79 ⟨.func, 1, 8, .nilf⟩ := tiOk_mk (.nilFunc) ⟨_, _, _, Tryd.underlying79⟩ (by kernel_rfl) rfl rfl rfl (by simp [Value.cells, Value.oneCell'])
theorem ok80 : TiOk Tryd.prog 80 ⟨.func, 1, 8, .nilf⟩ := tiOk_mk (.nilFunc) ⟨_, _, _, Tryd.underlying80⟩ (by kernel_rfl) rfl rfl rfl (by simp [Value.cells, Value.oneCell'])
theorem ok82 : TiOk Tryd.prog 82 ⟨.func, 1, 8, .nilf⟩ := tiOk_mk (.nilFunc) ⟨_, _, _, Tryd.underlying82⟩ (by kernel_rfl) rfl rfl rfl (by simp [Value.cells, Value.oneCell'])
theorem ok84 : TiOk Tryd.prog 84 ⟨.func, 1, 8, .nilf⟩ := tiOk_mk (.nilFunc) ⟨_, _, _, Tryd.underlying84⟩ (by kernel_rfl) rfl rfl rfl (by simp [Value.cells, Value.oneCell'])
theorem ok86 : TiOk Tryd.prog 86 ⟨.func, 1, 8, .nilf⟩ := tiOk_mk (.nilFunc) ⟨_, _, _, Tryd.underlying86⟩ (by kernel_rfl) rfl rfl rfl (by simp [Value.cells, Value.oneCell'])
theorem ok87 : TiOk Tryd.prog 87 ⟨.func, 1, 8, .nilf⟩ := tiOk_mk (.nilFunc) ⟨_, _, _, Tryd.underlying87⟩ (by kernel_rfl) rfl rfl rfl (by simp [Value.cells, Value.oneCell'])
theorem ok88 : TiOk Tryd.prog 88 ⟨.func, 1, 8, .nilf⟩ := tiOk_mk (.nilFunc) ⟨_, _, _, Tryd.underlying88⟩ (by kernel_rfl) rfl rfl rfl (by simp [Value.cells, Value.oneCell'])
theorem ok89 : TiOk Tryd.prog 89 ⟨.func, 1, 8, .nilf⟩ := tiOk_mk (.nilFunc) ⟨_, _, _, Tryd.underlying89⟩ (by kernel_rfl) rfl rfl rfl (by simp [Value.cells, Value.oneCell'])
theorem ok90 : TiOk Tryd.prog 90 ⟨.func, 1, 8, .nilf⟩ := tiOk_mk (.nilFunc) ⟨_, _, _, Tryd.underlying90⟩ (by kernel_rfl) rfl rfl rfl (by simp [Value.cells, Value.oneCell'])
theorem ok91 : TiOk Tryd.prog 91 ⟨.arr 2 72, 2, 16, .agg [.int .u64 0, .int .u64 0]⟩ := tiOk_mk (.agg #[.int .u64 0, .int .u64 0]) Tryd.underlying91 (by kernel_rfl) rfl rfl rfl (by simp [Value.cells, Value.oneCell'])
theorem ok92 : TiOk Tryd.prog 92 ⟨.arr 2 72, 2, 16, .agg [.int .u64 0, .int .u64 0]⟩ := tiOk_mk (.agg #[.int .u64 0, .int .u64 0]) Tryd.underlying92 (by kernel_rfl) rfl rfl rfl (by simp [Value.cells, Value.oneCell'])
theorem ok93 : TiOk Tryd.prog 93 ⟨.func, 1, 8, .nilf⟩ := tiOk_mk (.nilFunc) ⟨_, _, _, Tryd.underlying93⟩ (by kernel_rfl) rfl rfl rfl (by simp [Value.cells, Value.oneCell'])
theorem ok94 : TiOk Tryd.prog 94 ⟨.func, 1, 8, .nilf⟩ := tiOk_mk (.nilFunc) ⟨_, _, _, Tryd.underlying94⟩ (by kernel_rfl) rfl rfl rfl (by simp [Value.cells, Value.oneCell'])
theorem ok95 : TiOk Tryd.prog 95 ⟨.func, 1, 8, .nilf⟩ := tiOk_mk (.nilFunc) ⟨_, _, _, Tryd.underlying95⟩ (by kernel_rfl) rfl rfl rfl (by simp [Value.cells, Value.oneCell'])
theorem ok96 : TiOk Tryd.prog 96 ⟨.slice 72, 1, 24, .nils⟩ := tiOk_mk (.slice none 0 0) Tryd.underlying96 (by kernel_rfl) rfl rfl rfl (by simp [Value.cells, Value.oneCell'])
theorem ok97 : TiOk Tryd.prog 97 ⟨.func, 1, 8, .nilf⟩ := tiOk_mk (.nilFunc) ⟨_, _, _, Tryd.underlying97⟩ (by kernel_rfl) rfl rfl rfl (by simp [Value.cells, Value.oneCell'])
theorem ok98 : TiOk Tryd.prog 98 ⟨.slice 9, 1, 24, .nils⟩ := tiOk_mk (.slice none 0 0) Tryd.underlying98 (by kernel_rfl) rfl rfl rfl (by simp [Value.cells, Value.oneCell'])
theorem ok99 : TiOk Tryd.prog 99 ⟨.func, 1, 8, .nilf⟩ := tiOk_mk (.nilFunc) ⟨_, _, _, Tryd.underlying99⟩ (by kernel_rfl) rfl rfl rfl (by simp [Value.cells, Value.oneCell'])
theorem ok100 : TiOk Tryd.prog 100 ⟨.func, 1, 8, .nilf⟩ := tiOk_mk (.nilFunc) ⟨_, _, _, Tryd.underlying100⟩ (by kernel_rfl) rfl rfl rfl (by simp [Value.cells, Value.oneCell'])
theorem ok101 : TiOk Tryd.prog 101 ⟨.func, 1, 8, .nilf⟩ := tiOk_mk (.nilFunc) ⟨_, _, _, Tryd.underlying101⟩ (by kernel_rfl) rfl rfl rfl (by simp [Value.cells, Value.oneCell'])
theorem ok102 : TiOk Tryd.prog 102 ⟨.func, 1, 8, .nilf⟩ := tiOk_mk (.nilFunc) ⟨_, _, _, Tryd.underlying102⟩ (by kernel_rfl) rfl rfl rfl (by simp [Value.cells, Value.oneCell'])
theorem ok103 : TiOk Tryd.prog 103 ⟨.func, 1, 8, .nilf⟩ := tiOk_mk (.nilFunc) ⟨_, _, _, Tryd.underlying103⟩ (by kernel_rfl) rfl rfl rfl (by simp [Value.cells, Value.oneCell'])
theorem ok104 : TiOk Tryd.prog 104 ⟨.func, 1, 8, .nilf⟩ := tiOk_mk (.nilFunc) ⟨_, _, _, Tryd.underlying104⟩ (by kernel_rfl) rfl rfl rfl (by simp [Value.cells, Value.oneCell'])
theorem ok105 : TiOk Tryd.prog 105 ⟨.func, 1, 8, .nilf⟩ := tiOk_mk (.nilFunc) ⟨_, _, _, Tryd.underlying105⟩ (by kernel_rfl) rfl rfl rfl (by simp [Value.cells, Value.oneCell'])
theorem ok106 : TiOk Tryd.prog 106 ⟨.func, 1, 8, .nilf⟩ := tiOk_mk (.nilFunc) ⟨_, _, _, Tryd.underlying106⟩ (by kernel_rfl) rfl rfl rfl (by simp [Value.cells, Value.oneCell'])
theorem ok107 : TiOk Tryd.prog 107 ⟨.func, 1, 8, .nilf⟩ := tiOk_mk (.nilFunc) ⟨_, _, _, Tryd.underlying107⟩ (by kernel_rfl) rfl rfl rfl (by simp [Value.cells, Value.oneCell'])
theorem ok108 : TiOk Tryd.prog 108 ⟨.func, 1, 8, .nilf⟩ := tiOk_mk (.nilFunc) ⟨_, _, _, Tryd.underlying108⟩ (by kernel_rfl) rfl rfl rfl (by simp [Value.cells, Value.oneCell'])
theorem ok109 : TiOk Tryd.prog 109 ⟨.ptr 113, 1, 8, .nilp⟩ := tiOk_mk (.pointer none) Tryd.underlying109 (by kernel_rfl) rfl rfl rfl (by simp [Value.cells, Value.oneCell'])
theorem ok110 : TiOk Tryd.prog 110 ⟨.func, 1, 8, .nilf⟩ := tiOk_mk (.nilFunc) ⟨_, _, _, Tryd.underlying110⟩ (by kernel_rfl) rfl rfl rfl (by simp [Value.cells, Value.oneCell'])
theorem ok111 : TiOk Tryd.prog 111 ⟨.ptr 109, 1, 8, .nilp⟩ := tiOk_mk (.pointer none) Tryd.underlying111 (by kernel_rfl) rfl rfl rfl (by simp [Value.cells, Value.oneCell'])
theorem ok112 : TiOk Tryd.prog 112 ⟨.struct [(0, 9), (1, 3), (2, 33), (3, 30)], 4, 48, .agg [.str ⟨#[]⟩, .int .i64 0, .int .i64 0, .nili]⟩ := tiOk_mk (.agg #[.string ⟨#[]⟩, .int .i64 0, .int .i64 0, .nilIface]) ⟨_, Tryd.underlying112, rfl⟩ (by kernel_rfl) rfl rfl rfl (by simp [Value.cells, Value.oneCell'])
theorem ok113 : TiOk Tryd.prog 113 ⟨.struct [(0, 9), (1, 3), (2, 33), (3, 30)], 4, 48, .agg [.str ⟨#[]⟩, .int .i64 0, .int .i64 0, .nili]⟩ := tiOk_mk (.agg #[.string ⟨#[]⟩, .int .i64 0, .int .i64 0, .nilIface]) ⟨_, Tryd.underlying113, rfl⟩ (by kernel_rfl) rfl rfl rfl (by simp [Value.cells, Value.oneCell'])
theorem ok114 : TiOk Tryd.prog 114 ⟨.func, 1, 8, .nilf⟩ := tiOk_mk (.nilFunc) ⟨_, _, _, Tryd.underlying114⟩ (by kernel_rfl) rfl rfl rfl (by simp [Value.cells, Value.oneCell'])
theorem ok115 : TiOk Tryd.prog 115 ⟨.func, 1, 8, .nilf⟩ := tiOk_mk (.nilFunc) ⟨_, _, _, Tryd.underlying115⟩ (by kernel_rfl) rfl rfl rfl (by simp [Value.cells, Value.oneCell'])
theorem ok116 : TiOk Tryd.prog 116 ⟨.func, 1, 8, .nilf⟩ := tiOk_mk (.nilFunc) ⟨_, _, _, Tryd.underlying116⟩ (by kernel_rfl) rfl rfl rfl (by simp [Value.cells, Value.oneCell'])
theorem ok117 : TiOk Tryd.prog 117 ⟨.func, 1, 8, .nilf⟩ := tiOk_mk (.nilFunc) ⟨_, _, _, Tryd.underlying117⟩ (by kernel_rfl) rfl rfl rfl (by simp [Value.cells, Value.oneCell'])
theorem ok118 : TiOk Tryd.prog 118 ⟨.func, 1, 8, .nilf⟩ := tiOk_mk (.nilFunc) ⟨_, _, _, Tryd.underlying118⟩ (by kernel_rfl) rfl rfl rfl (by simp [Value.cells, Value.oneCell'])
theorem ok119 : TiOk Tryd.prog 119 ⟨.func, 1, 8, .nilf⟩ := tiOk_mk (.nilFunc) ⟨_, _, _, Tryd.underlying119⟩ (by kernel_rfl) rfl rfl rfl (by simp [Value.cells, Value.oneCell'])
theorem ok120 : TiOk Tryd.prog 120 ⟨.ptr 170, 1, 8, .nilp⟩ := tiOk_mk (.pointer none) Tryd.underlying120 (by kernel_rfl) rfl rfl rfl (by simp [Value.cells, Value.oneCell'])
theorem ok121 : TiOk Tryd.prog 121 ⟨.func, 1, 8, .nilf⟩ := tiOk_mk (.nilFunc) ⟨_, _, _, Tryd.underlying121⟩ (by kernel_rfl) rfl rfl rfl (by simp [Value.cells, Value.oneCell'])
theorem ok122 : TiOk Tryd.prog 122 ⟨.func, 1, 8, .nilf⟩ := tiOk_mk (.nilFunc) ⟨_, _, _, Tryd.underlying122⟩ (by kernel_rfl) rfl rfl rfl (by simp [Value.cells, Value.oneCell'])
theorem ok123 : TiOk Tryd.prog 123 ⟨.func, 1, 8, .nilf⟩ := tiOk_mk (.nilFunc) ⟨_, _, _, Tryd.underlying123⟩ (by kernel_rfl) rfl rfl rfl (by simp [Value.cells, Value.oneCell'])
theorem ok126 : TiOk Tryd.prog 126 ⟨.struct [(0, 22), (1, 3), (2, 33)], 3, 40, .agg [.nils, .int .i64 0, .int .i64 0]⟩ := tiOk_mk (.agg #[.slice none 0 0, .int .i64 0, .int .i64 0]) ⟨_, Tryd.underlying126, rfl⟩ (by kernel_rfl) rfl rfl rfl (by simp [Value.cells, Value.oneCell'])
theorem ok127 : TiOk Tryd.prog 127 ⟨.struct [(0, 22), (1, 3), (2, 33)], 3, 40, .agg [.nils, .int .i64 0, .int .i64 0]⟩ := tiOk_mk (.agg #[.slice none 0 0, .int .i64 0, .int .i64 0]) ⟨_, Tryd.underlying127, rfl⟩ (by kernel_rfl) rfl rfl rfl (by simp [Value.cells, Value.oneCell'])
theorem ok132 : TiOk Tryd.prog 132 ⟨.func, 1, 8, .nilf⟩ := tiOk_mk (.nilFunc) ⟨_, _, _, Tryd.underlying132⟩ (by kernel_rfl) rfl rfl rfl (by simp [Value.cells, Value.oneCell'])
theorem ok134 : TiOk Tryd.prog 134 ⟨.func, 1, 8, .nilf⟩ := tiOk_mk (.nilFunc) ⟨_, _, _, Tryd.underlying134⟩ (by kernel_rfl) rfl rfl rfl (by simp [Value.cells, Value.oneCell'])
theorem ok136 : TiOk Tryd.prog 136 ⟨.func, 1, 8, .nilf⟩ := tiOk_mk (.nilFunc) ⟨_, _, _, Tryd.underlying136⟩ (by kernel_rfl) rfl rfl rfl (by simp [Value.cells, Value.oneCell'])
theorem ok137 : TiOk Tryd.prog 137 ⟨.func, 1, 8, .nilf⟩ := tiOk_mk (.nilFunc) ⟨_, _, _, Tryd.underlying137⟩ (by kernel_rfl) rfl rfl rfl (by simp [Value.cells, Value.oneCell'])
theorem ok138 : TiOk Tryd.prog 138 ⟨.func, 1, 8, .nilf⟩ := tiOk_mk (.nilFunc) ⟨_, _, _, Tryd.underlying138⟩ (by kernel_rfl) rfl rfl rfl (by simp [Value.cells, Value.oneCell'])
theorem ok139 : TiOk Tryd.prog 139 ⟨.func, 1, 8, .nilf⟩ := tiOk_mk (.nilFunc) ⟨_, _, _, Tryd.underlying139⟩ (by kernel_rfl) rfl rfl rfl (by simp [Value.cells, Value.oneCell'])
theorem ok140 : TiOk Tryd.prog 140 ⟨.func, 1, 8, .nilf⟩ := tiOk_mk (.nilFunc) ⟨_, _, _, Tryd.underlying140⟩ (by kernel_rfl) rfl rfl rfl (by simp [Value.cells, Value.oneCell'])
theorem ok141 : TiOk Tryd.prog 141 ⟨.func, 1, 8, .nilf⟩ := tiOk_mk (.nilFunc) ⟨_, _, _, Tryd.underlying141⟩ (by kernel_rfl) rfl rfl rfl (by simp [Value.cells, Value.oneCell'])
theorem ok142 : TiOk Tryd.prog 142 ⟨.func, 1, 8, .nilf⟩ := tiOk_mk (.nilFunc) ⟨_, _, _, Tryd.underlying142⟩ (by kernel_rfl) rfl rfl rfl (by simp [Value.cells, Value.oneCell'])
theorem ok143 : TiOk Tryd.prog 143 ⟨.func, 1, 8, .nilf⟩ := tiOk_mk (.nilFunc) ⟨_, _, _, Tryd.underlying143⟩ (by kernel_rfl) rfl rfl rfl (by simp [Value.cells, Value.oneCell'])
theorem ok144 : TiOk Tryd.prog 144 ⟨.func, 1, 8, .nilf⟩ := tiOk_mk (.nilFunc) ⟨_, _, _, Tryd.underlying144⟩ (by kernel_rfl) rfl rfl rfl (by simp [Value.cells, Value.oneCell'])
theorem ok145 : TiOk Tryd.prog 145 ⟨.func, 1, 8, .nilf⟩ := tiOk_mk (.nilFunc) ⟨_, _, _, Tryd.underlying145⟩ (by kernel_rfl) rfl rfl rfl (by simp [Value.cells, Value.oneCell'])
theorem ok146 : TiOk Tryd.prog 146 ⟨.func, 1, 8, .nilf⟩ := tiOk_mk (.nilFunc) ⟨_, _, _, Tryd.underlying146⟩ (by kernel_rfl) rfl rfl rfl (by simp [Value.cells, Value.oneCell'])
theorem ok147 : TiOk Tryd.prog 147 ⟨.func, 1, 8, .nilf⟩ := tiOk_mk (.nilFunc) ⟨_, _, _, Tryd.underlying147⟩ (by kernel_rfl) rfl rfl rfl (by simp [Value.cells, Value.oneCell'])
theorem ok148 : TiOk Tryd.prog 148 ⟨.func, 1, 8, .nilf⟩ := tiOk_mk (.nilFunc) ⟨_, _, _, Tryd.underlying148⟩ (by kernel_rfl) rfl rfl rfl (by simp [Value.cells, Value.oneCell'])
theorem ok149 : TiOk Tryd.prog 149 ⟨.arr 3 3, 3, 24, .agg [.int .i64 0, .int .i64 0, .int .i64 0]⟩ := tiOk_mk (.agg #[.int .i64 0, .int .i64 0, .int .i64 0]) Tryd.underlying149 (by kernel_rfl) rfl rfl rfl (by simp [Value.cells, Value.oneCell'])
theorem ok150 : TiOk Tryd.prog 150 ⟨.func, 1, 8, .nilf⟩ := tiOk_mk (.nilFunc) ⟨_, _, _, Tryd.underlying150⟩ (by kernel_rfl) rfl rfl rfl (by simp [Value.cells, Value.oneCell'])
theorem ok151 : TiOk Tryd.prog 151 ⟨.int .u64, 1, 8, .int .u64 0⟩ := tiOk_mk (.int .u64 0) Tryd.underlying151 (by kernel_rfl) rfl rfl rfl (by simp [Value.cells, Value.oneCell'])
theorem ok152 : TiOk Tryd.prog 152 ⟨.func, 1, 8, .nilf⟩ := tiOk_mk (.nilFunc) ⟨_, _, _, Tryd.underlying152⟩ (by kernel_rfl) rfl rfl rfl (by simp [Value.cells, Value.oneCell'])
theorem ok153 : TiOk Tryd.prog 153 ⟨.func, 1, 8, .nilf⟩ := tiOk_mk (.nilFunc) ⟨_, _, _, Tryd.underlying153⟩ (by kernel_rfl) rfl rfl rfl (by simp [Value.cells, Value.oneCell'])
theorem ok154 : TiOk Tryd.prog 154 ⟨.arr 4 5, 4, 4, .agg [.int .u8 0, .int .u8 0, .int .u8 0, .int .u8 0]⟩ := tiOk_mk (.agg #[.int .u8 0, .int .u8 0, .int .u8 0, .int .u8 0]) Tryd.underlying154 (by kernel_rfl) rfl rfl rfl (by simp [Value.cells, Value.oneCell'])
theorem ok155 : TiOk Tryd.prog 155 ⟨.func, 1, 8, .nilf⟩ := tiOk_mk (.nilFunc) ⟨_, _, _, Tryd.underlying155⟩ (by kernel_rfl) rfl rfl rfl (by simp [Value.cells, Value.oneCell'])
theorem ok157 : TiOk Tryd.prog 157 ⟨.int .u64, 1, 8, .int .u64 0⟩ := tiOk_mk (.int .u64 0) Tryd.underlying157 (by kernel_rfl) rfl rfl rfl (by simp [Value.cells, Value.oneCell'])
theorem ok160 : TiOk Tryd.prog 160 ⟨.func, 1, 8, .nilf⟩ := tiOk_mk (.nilFunc) ⟨_, _, _, Tryd.underlying160⟩ (by kernel_rfl) rfl rfl rfl (by simp [Value.cells, Value.oneCell'])
theorem ok161 : TiOk Tryd.prog 161 ⟨.iface, 1, 16, .nili⟩ := tiOk_mk (.nilIface) ⟨_, Tryd.underlying161⟩ (by kernel_rfl) rfl rfl rfl (by simp [Value.cells, Value.oneCell'])
theorem ok163 : TiOk Tryd.prog 163 ⟨.func, 1, 8, .nilf⟩ := tiOk_mk (.nilFunc) ⟨_, _, _, Tryd.underlying163⟩ (by kernel_rfl) rfl rfl rfl (by simp [Value.cells, Value.oneCell'])
theorem ok164 : TiOk Tryd.prog 164 ⟨.int .u8, 1, 1, .int .u8 0⟩ := tiOk_mk (.int .u8 0) Tryd.underlying164 (by kernel_rfl) rfl rfl rfl (by simp [Value.cells, Value.oneCell'])
theorem ok168 : TiOk Tryd.prog 168 ⟨.func, 1, 8, .nilf⟩ := tiOk_mk (.nilFunc) ⟨_, _, _, Tryd.underlying168⟩ (by kernel_rfl) rfl rfl rfl (by simp [Value.cells, Value.oneCell'])
theorem ok169 : TiOk Tryd.prog 169 ⟨.struct [(0, 22), (1, 3), (2, 33)], 3, 40, .agg [.nils, .int .i64 0, .int .i64 0]⟩ := tiOk_mk (.agg #[.slice none 0 0, .int .i64 0, .int .i64 0]) ⟨_, Tryd.underlying169, rfl⟩ (by kernel_rfl) rfl rfl rfl (by simp [Value.cells, Value.oneCell'])
theorem ok170 : TiOk Tryd.prog 170 ⟨.struct [(0, 22), (1, 3), (2, 33)], 3, 40, .agg [.nils, .int .i64 0, .int .i64 0]⟩ := tiOk_mk (.agg #[.slice none 0 0, .int .i64 0, .int .i64 0]) ⟨_, Tryd.underlying170, rfl⟩ (by kernel_rfl) rfl rfl rfl (by simp [Value.cells, Value.oneCell'])
theorem ok181 : TiOk Tryd.prog 181 ⟨.struct [(0, 17)], 1, 8, .agg [.nilp]⟩ := tiOk_mk (.agg #[.pointer none]) ⟨_, Tryd.underlying181, rfl⟩ (by kernel_rfl) rfl rfl rfl (by simp [Value.cells, Value.oneCell'])
theorem ok205 : TiOk Tryd.prog 205 ⟨.int .i32, 1, 4, .int .i32 0⟩ := tiOk_mk (.int .i32 0) Tryd.underlying205 (by kernel_rfl) rfl rfl rfl (by simp [Value.cells, Value.oneCell'])
theorem ok206 : TiOk Tryd.prog 206 ⟨.int .i32, 1, 4, .int .i32 0⟩ := tiOk_mk (.int .i32 0) Tryd.underlying206 (by kernel_rfl) rfl rfl rfl (by simp [Value.cells, Value.oneCell'])
theorem ok211 : TiOk Tryd.prog 211 ⟨.struct [(0, 9), (1, 164)], 2, 24, .agg [.str ⟨#[]⟩, .int .u8 0]⟩ := tiOk_mk (.agg #[.string ⟨#[]⟩, .int .u8 0]) ⟨_, Tryd.underlying211, rfl⟩ (by kernel_rfl) rfl rfl rfl (by simp [Value.cells, Value.oneCell'])
theorem ok212 : TiOk Tryd.prog 212 ⟨.struct [(0, 9), (1, 164)], 2, 24, .agg [.str ⟨#[]⟩, .int .u8 0]⟩ := tiOk_mk (.agg #[.string ⟨#[]⟩, .int .u8 0]) ⟨_, Tryd.underlying212, rfl⟩ (by kernel_rfl) rfl rfl rfl (by simp [Value.cells, Value.oneCell'])
theorem ok218 : TiOk Tryd.prog 218 ⟨.int .i32, 1, 4, .int .i32 0⟩ := tiOk_mk (.int .i32 0) Tryd.underlying218 (by kernel_rfl) rfl rfl rfl (by simp [Value.cells, Value.oneCell'])
theorem ok219 : TiOk Tryd.prog 219 ⟨.struct [(0, 205), (1, 206), (2, 218), (3, 218)], 4, 16, .agg [.int .i32 0, .int .i32 0, .int .i32 0, .int .i32 0]⟩ := tiOk_mk (.agg #[.int .i32 0, .int .i32 0, .int .i32 0, .int .i32 0]) ⟨_, Tryd.underlying219, rfl⟩ (by kernel_rfl) rfl rfl rfl (by simp [Value.cells, Value.oneCell'])
theorem ok220 : TiOk Tryd.prog 220 ⟨.struct [(0, 205), (1, 206), (2, 218), (3, 218)], 4, 16, .agg [.int .i32 0, .int .i32 0, .int .i32 0, .int .i32 0]⟩ := tiOk_mk (.agg #[.int .i32 0, .int .i32 0, .int .i32 0, .int .i32 0]) ⟨_, Tryd.underlying220, rfl⟩ (by kernel_rfl) rfl rfl rfl (by simp [Value.cells, Value.oneCell'])
theorem tk_0 : TyOk Tryd.prog ty_0 := by
  intro t i h
  unfold ty_0 at h
  split at h
  · cases h; exact ok1
  · cases h; exact ok2
  · cases h; exact ok3
  · cases h; exact ok4
  · cases h; exact ok5
  · cases h; exact ok6
  · cases h; exact ok7
  · cases h; exact ok8
  · cases h; exact ok9
  · cases h; exact ok10
  · cases h; exact ok11
  · cases h; exact ok12
  · cases h; exact ok13
  · cases h; exact ok14
  · cases h; exact ok15
  · cases h; exact ok16
  · cases h; exact ok17
  · cases h; exact ok18
  · cases h; exact ok19
  · cases h; exact ok20
  · cases h; exact ok21
  · cases h; exact ok22
  · cases h; exact ok23
  · cases h; exact ok24
  · cases h; exact ok25
  · cases h; exact ok26
  · cases h; exact ok27
  · cases h; exact ok28
  · cases h; exact ok29
  · cases h; exact ok30
  · cases h; exact ok32
  · cases h; exact ok33
  · cases h; exact ok35
  · cases h; exact ok36
  · cases h; exact ok37
  · cases h; exact ok38
  · cases h; exact ok39
  · cases h; exact ok40
  · cases h; exact ok41
  · cases h; exact ok43
  · cases h; exact ok45
  · cases h; exact ok46
  · cases h; exact ok47
  · cases h; exact ok48
  · cases h; exact ok49
  · cases h; exact ok50
  · cases h; exact ok51
  · cases h; exact ok52
  · cases h; exact ok53
  · cases h; exact ok54
  · cases h; exact ok55
  · cases h; exact ok57
  · cases h; exact ok58
  · cases h; exact ok59
  · cases h; exact ok60
  · cases h; exact ok61
  · cases h; exact ok62
  · cases h; exact ok63
  · cases h; exact ok65
  · cases h; exact ok67
  · cases h
theorem tk_1 : TyOk Tryd.prog ty_1 := by
  intro t i h
  unfold ty_1 at h
  split at h
  · cases h; exact ok68
  · cases h; exact ok69
  · cases h; exact ok70
  · cases h; exact ok71
  · cases h; exact ok72
  · cases h; exact ok73
  · cases h; exact ok74
  · cases h; exact ok75
  · cases h; exact ok76
  · cases h; exact ok77
  · cases h; exact ok78
  · cases h; exact ok79
  · cases h; exact ok80
  · cases h; exact ok82
  · cases h; exact ok84
  · cases h; exact ok86
  · cases h; exact ok87
  · cases h; exact ok88
  · cases h; exact ok89
  · cases h; exact ok90
  · cases h; exact ok91
  · cases h; exact ok92
  · cases h; exact ok93
  · cases h; exact ok94
  · cases h; exact ok95
  · cases h; exact ok96
  · cases h; exact ok97
  · cases h; exact ok98
  · cases h; exact ok99
  · cases h; exact ok100
  · cases h; exact ok101
  · cases h; exact ok102
  · cases h; exact ok103
  · cases h; exact ok104
  · cases h; exact ok105
  · cases h; exact ok106
  · cases h; exact ok107
  · cases h; exact ok108
  · cases h; exact ok109
  · cases h; exact ok110
  · cases h; exact ok111
  · cases h; exact ok112
  · cases h; exact ok113
  · cases h; exact ok114
  · cases h; exact ok115
  · cases h; exact ok116
  · cases h; exact ok117
  · cases h; exact ok118
  · cases h; exact ok119
  · cases h; exact ok120
  · cases h; exact ok121
  · cases h; exact ok122
  · cases h; exact ok123
  · cases h; exact ok126
  · cases h; exact ok127
  · cases h; exact ok132
  · cases h
theorem tk_2 : TyOk Tryd.prog ty_2 := by
  intro t i h
  unfold ty_2 at h
  split at h
  · cases h; exact ok134
  · cases h; exact ok136
  · cases h; exact ok137
  · cases h; exact ok138
  · cases h; exact ok139
  · cases h; exact ok140
  · cases h; exact ok141
  · cases h; exact ok142
  · cases h; exact ok143
  · cases h; exact ok144
  · cases h; exact ok145
  · cases h; exact ok146
  · cases h; exact ok147
  · cases h; exact ok148
  · cases h; exact ok149
  · cases h; exact ok150
  · cases h; exact ok151
  · cases h; exact ok152
  · cases h; exact ok153
  · cases h; exact ok154
  · cases h; exact ok155
  · cases h; exact ok157
  · cases h; exact ok160
  · cases h; exact ok161
  · cases h; exact ok163
  · cases h; exact ok164
  · cases h; exact ok168
  · cases h; exact ok169
  · cases h; exact ok170
  · cases h; exact ok181
  · cases h
theorem tk_3 : TyOk Tryd.prog ty_3 := by
  intro t i h
  unfold ty_3 at h
  split at h
  · cases h; exact ok205
  · cases h; exact ok206
  · cases h; exact ok211
  · cases h; exact ok212
  · cases h; exact ok218
  · cases h; exact ok219
  · cases h; exact ok220
  · cases h
theorem tk : TyOk Tryd.prog ty := by
  intro t i h
  unfold ty at h
  cases hb0 : Nat.ble t 67
  case true => simp only [hb0, cond_true] at h; exact tk_0 t i h
  cases hb1 : Nat.ble t 132
  case true => simp only [hb1, cond_true, hb0, cond_false] at h; exact tk_1 t i h
  cases hb2 : Nat.ble t 203
  case true => simp only [hb2, cond_true, hb0, cond_false, hb1, cond_false] at h; exact tk_2 t i h
  simp only [hb0, hb1, hb2, cond_false] at h
  exact tk_3 t i h
theorem mixed : Tryd.prog.follows .mixedOrders = true := by kernel_rfl
end Go.Proofs.YtkmlinaofbcbaaaDoor
namespace Go.Proofs.YtkmlinaofbcbaaaDoor
open Go Go.Va
set_option linter.unusedSimpArgs false
set_option linter.unusedVariables false
/-- Errors, as values: none; a fault, with what is under it. -/
inductive Err where
  | nil
  | fault (op : List (BitVec 8)) (at_ : Int) (code : Int) (under : Err)
  deriving DecidableEq
def Err.isNil : Err → Bool
  | .nil => true
  | _ => false
def eErr : Err → AV
  | .nil => .nili
  | .fault o a c u => .iface 109 (.fptr [eS o, eI a, eI c, eErr u] 0)
theorem eErr_cut (nl nt : Nat → Option Nat) : ∀ e, cutAV nl nt (eErr e) = eErr e
  | .nil => rfl
  | .fault o a c u => by simp only [eErr, cutAV, cutL, eErr_cut nl nt u, eS, eI]
theorem eErr_flat (e : Err) : flatAV (eErr e) = true := by cases e <;> rfl
theorem encErr : Enc ty 30 1 eErr := ⟨sz30, by decide, fun x => (by cases x <;> rfl), fun h => (by cases h), fun _ x => (by cases x <;> rfl), fun x => (by cases x <;> rfl), eErr_cut⟩
structure runtime_boundsError where
  x : Int
  y : Int
  signed : Bool
  code : BitVec 8
  deriving DecidableEq
def c_runtime_boundsError (x : runtime_boundsError) : List AV := [eI x.x, eI x.y, eB x.signed, (@eU .u8 8) x.code]
def e_runtime_boundsError (x : runtime_boundsError) : AV := .agg (c_runtime_boundsError x)
def z_runtime_boundsError : runtime_boundsError := ⟨(0 : Int), (0 : Int), false, 0#8⟩
theorem c_runtime_boundsError_cut (nl nt : Nat → Option Nat) (x : runtime_boundsError) : cutL nl nt (c_runtime_boundsError x) = c_runtime_boundsError x := by simp only [cutL, e_runtime_boundsError, c_runtime_boundsError, cutAV, (enc_i64 td2 sz2).cut nl nt, (enc_i64 td3 sz3).cut nl nt, (enc_b td4 sz4).cut nl nt, (enc_u td6 sz6).cut nl nt]
theorem pc_runtime_boundsError (x : runtime_boundsError) : purL (c_runtime_boundsError x) = true := by simp only [c_runtime_boundsError, purL, purL_append, Bool.and_self, Bool.and_true, (show purA (eI x.x) = true from (fun _ => rfl) _), (show purA (eI x.y) = true from (fun _ => rfl) _), (show purA (eB x.signed) = true from (fun _ => rfl) _), (show purA ((@eU .u8 8) x.code) = true from (fun _ => rfl) _)]
theorem pur_runtime_boundsError (x : runtime_boundsError) : purA (e_runtime_boundsError x) = true := pc_runtime_boundsError x
theorem enc7 : Enc ty 7 4 e_runtime_boundsError := ⟨sz7, by decide, fun _ => rfl, fun _ _ => rfl, fun h => (by cases h), fun _ => rfl, fun nl nt x => by simp only [e_runtime_boundsError, cutAV, c_runtime_boundsError_cut]⟩
theorem enc8 : Enc ty 8 4 e_runtime_boundsError := ⟨sz8, by decide, fun _ => rfl, fun _ _ => rfl, fun h => (by cases h), fun _ => rfl, fun nl nt x => by simp only [e_runtime_boundsError, cutAV, c_runtime_boundsError_cut]⟩
structure runtime_errorAddressString where
  msg : List (BitVec 8)
  addr : BitVec 64
  deriving DecidableEq
def c_runtime_errorAddressString (x : runtime_errorAddressString) : List AV := [eS x.msg, (@eU .u64 64) x.addr]
def e_runtime_errorAddressString (x : runtime_errorAddressString) : AV := .agg (c_runtime_errorAddressString x)
def z_runtime_errorAddressString : runtime_errorAddressString := ⟨([] : List (BitVec 8)), 0#64⟩
theorem c_runtime_errorAddressString_cut (nl nt : Nat → Option Nat) (x : runtime_errorAddressString) : cutL nl nt (c_runtime_errorAddressString x) = c_runtime_errorAddressString x := by simp only [cutL, e_runtime_errorAddressString, c_runtime_errorAddressString, cutAV, (enc_s td9 sz9).cut nl nt, (enc_u td12 sz12).cut nl nt]
theorem pc_runtime_errorAddressString (x : runtime_errorAddressString) : purL (c_runtime_errorAddressString x) = true := by simp only [c_runtime_errorAddressString, purL, purL_append, Bool.and_self, Bool.and_true, (show purA (eS x.msg) = true from (fun _ => rfl) _), (show purA ((@eU .u64 64) x.addr) = true from (fun _ => rfl) _)]
theorem pur_runtime_errorAddressString (x : runtime_errorAddressString) : purA (e_runtime_errorAddressString x) = true := pc_runtime_errorAddressString x
theorem enc13 : Enc ty 13 2 e_runtime_errorAddressString := ⟨sz13, by decide, fun _ => rfl, fun _ _ => rfl, fun h => (by cases h), fun _ => rfl, fun nl nt x => by simp only [e_runtime_errorAddressString, cutAV, c_runtime_errorAddressString_cut]⟩
theorem enc14 : Enc ty 14 2 e_runtime_errorAddressString := ⟨sz14, by decide, fun _ => rfl, fun _ _ => rfl, fun h => (by cases h), fun _ => rfl, fun nl nt x => by simp only [e_runtime_errorAddressString, cutAV, c_runtime_errorAddressString_cut]⟩
structure api_Entry where
  Key : List (BitVec 8)
  Version : Int
  AsOf : Int
  Ends : Int
  Value : List (BitVec 8)
  deriving DecidableEq
def c_api_Entry (x : api_Entry) : List AV := [eS x.Key, eI x.Version, eI x.AsOf, eI x.Ends, (eL 1 (@eU .u8 8)) x.Value]
def e_api_Entry (x : api_Entry) : AV := .agg (c_api_Entry x)
def z_api_Entry : api_Entry := ⟨([] : List (BitVec 8)), (0 : Int), (0 : Int), (0 : Int), ([] : List (BitVec 8))⟩
theorem c_api_Entry_cut (nl nt : Nat → Option Nat) (x : api_Entry) : cutL nl nt (c_api_Entry x) = c_api_Entry x := by simp only [cutL, e_api_Entry, c_api_Entry, cutAV, (enc_s td9 sz9).cut nl nt, (enc_i64 td3 sz3).cut nl nt, (enc_i64 td3 sz3).cut nl nt, (enc_i64 td3 sz3).cut nl nt, (enc_l td22 sz22 (enc_u td5 sz5).cut).cut nl nt]
theorem pc_api_Entry (x : api_Entry) : purL (c_api_Entry x) = true := by simp only [c_api_Entry, purL, purL_append, Bool.and_self, Bool.and_true, (show purA (eS x.Key) = true from (fun _ => rfl) _), (show purA (eI x.Version) = true from (fun _ => rfl) _), (show purA (eI x.AsOf) = true from (fun _ => rfl) _), (show purA (eI x.Ends) = true from (fun _ => rfl) _), (show purA ((eL 1 (@eU .u8 8)) x.Value) = true from (pur_eL (fun _ => rfl)) _)]
theorem pur_api_Entry (x : api_Entry) : purA (e_api_Entry x) = true := pc_api_Entry x
theorem enc23 : Enc ty 23 5 e_api_Entry := ⟨sz23, by decide, fun _ => rfl, fun _ _ => rfl, fun h => (by cases h), fun _ => rfl, fun nl nt x => by simp only [e_api_Entry, cutAV, c_api_Entry_cut]⟩
theorem enc24 : Enc ty 24 5 e_api_Entry := ⟨sz24, by decide, fun _ => rfl, fun _ _ => rfl, fun h => (by cases h), fun _ => rfl, fun nl nt x => by simp only [e_api_Entry, cutAV, c_api_Entry_cut]⟩
structure api_Msg where
  Kind : Int
  From : Int
  To : Int
  Epoch : Int
  Id : Int
  X : api_Entry
  Found : Bool
  deriving DecidableEq
def c_api_Msg (x : api_Msg) : List AV := [eI x.Kind] ++ [eI x.From] ++ [eI x.To] ++ [eI x.Epoch] ++ [eI x.Id] ++ (c_api_Entry x.X) ++ [eB x.Found]
def e_api_Msg (x : api_Msg) : AV := .agg (c_api_Msg x)
def z_api_Msg : api_Msg := ⟨(0 : Int), (0 : Int), (0 : Int), (0 : Int), (0 : Int), z_api_Entry, false⟩
theorem c_api_Msg_cut (nl nt : Nat → Option Nat) (x : api_Msg) : cutL nl nt (c_api_Msg x) = c_api_Msg x := by simp only [cutL, e_api_Msg, c_api_Msg, cutAV, (enc_i64 td3 sz3).cut nl nt, (enc_i64 td3 sz3).cut nl nt, (enc_i64 td3 sz3).cut nl nt, (enc_i64 td3 sz3).cut nl nt, (enc_i64 td3 sz3).cut nl nt, (enc_b td4 sz4).cut nl nt, c_api_Entry_cut nl nt, cutL_append]
theorem pc_api_Msg (x : api_Msg) : purL (c_api_Msg x) = true := by simp only [c_api_Msg, purL, purL_append, Bool.and_self, Bool.and_true, (show purA (eI x.Kind) = true from (fun _ => rfl) _), (show purA (eI x.From) = true from (fun _ => rfl) _), (show purA (eI x.To) = true from (fun _ => rfl) _), (show purA (eI x.Epoch) = true from (fun _ => rfl) _), (show purA (eI x.Id) = true from (fun _ => rfl) _), pc_api_Entry x.X, (show purA (eB x.Found) = true from (fun _ => rfl) _)]
theorem pur_api_Msg (x : api_Msg) : purA (e_api_Msg x) = true := pc_api_Msg x
theorem enc25 : Enc ty 25 11 e_api_Msg := ⟨sz25, by decide, fun _ => rfl, fun _ _ => rfl, fun h => (by cases h), fun _ => rfl, fun nl nt x => by simp only [e_api_Msg, cutAV, c_api_Msg_cut]⟩
theorem enc26 : Enc ty 26 11 e_api_Msg := ⟨sz26, by decide, fun _ => rfl, fun _ _ => rfl, fun h => (by cases h), fun _ => rfl, fun nl nt x => by simp only [e_api_Msg, cutAV, c_api_Msg_cut]⟩
structure api_Foot where
  Seq : Int
  Bytes : Int
  Count : Int
  Dead : List Int
  deriving DecidableEq
def c_api_Foot (x : api_Foot) : List AV := [eI x.Seq, eI x.Bytes, eI x.Count, (eL 1 eI) x.Dead]
def e_api_Foot (x : api_Foot) : AV := .agg (c_api_Foot x)
def z_api_Foot : api_Foot := ⟨(0 : Int), (0 : Int), (0 : Int), ([] : List Int)⟩
theorem c_api_Foot_cut (nl nt : Nat → Option Nat) (x : api_Foot) : cutL nl nt (c_api_Foot x) = c_api_Foot x := by simp only [cutL, e_api_Foot, c_api_Foot, cutAV, (enc_i64 td3 sz3).cut nl nt, (enc_i64 td3 sz3).cut nl nt, (enc_i64 td3 sz3).cut nl nt, (enc_l td51 sz51 (enc_i64 td3 sz3).cut).cut nl nt]
theorem pc_api_Foot (x : api_Foot) : purL (c_api_Foot x) = true := by simp only [c_api_Foot, purL, purL_append, Bool.and_self, Bool.and_true, (show purA (eI x.Seq) = true from (fun _ => rfl) _), (show purA (eI x.Bytes) = true from (fun _ => rfl) _), (show purA (eI x.Count) = true from (fun _ => rfl) _), (show purA ((eL 1 eI) x.Dead) = true from (pur_eL (fun _ => rfl)) _)]
theorem pur_api_Foot (x : api_Foot) : purA (e_api_Foot x) = true := pc_api_Foot x
theorem enc52 : Enc ty 52 4 e_api_Foot := ⟨sz52, by decide, fun _ => rfl, fun _ _ => rfl, fun h => (by cases h), fun _ => rfl, fun nl nt x => by simp only [e_api_Foot, cutAV, c_api_Foot_cut]⟩
theorem enc53 : Enc ty 53 4 e_api_Foot := ⟨sz53, by decide, fun _ => rfl, fun _ _ => rfl, fun h => (by cases h), fun _ => rfl, fun nl nt x => by simp only [e_api_Foot, cutAV, c_api_Foot_cut]⟩
structure api_Mark where
  Hash : BitVec 64
  Off : Int
  Size : Int
  deriving DecidableEq
def c_api_Mark (x : api_Mark) : List AV := [(@eU .u64 64) x.Hash, eI x.Off, eI x.Size]
def e_api_Mark (x : api_Mark) : AV := .agg (c_api_Mark x)
def z_api_Mark : api_Mark := ⟨0#64, (0 : Int), (0 : Int)⟩
theorem c_api_Mark_cut (nl nt : Nat → Option Nat) (x : api_Mark) : cutL nl nt (c_api_Mark x) = c_api_Mark x := by simp only [cutL, e_api_Mark, c_api_Mark, cutAV, (enc_u td72 sz72).cut nl nt, (enc_i64 td3 sz3).cut nl nt, (enc_i64 td3 sz3).cut nl nt]
theorem pc_api_Mark (x : api_Mark) : purL (c_api_Mark x) = true := by simp only [c_api_Mark, purL, purL_append, Bool.and_self, Bool.and_true, (show purA ((@eU .u64 64) x.Hash) = true from (fun _ => rfl) _), (show purA (eI x.Off) = true from (fun _ => rfl) _), (show purA (eI x.Size) = true from (fun _ => rfl) _)]
theorem pur_api_Mark (x : api_Mark) : purA (e_api_Mark x) = true := pc_api_Mark x
theorem enc73 : Enc ty 73 3 e_api_Mark := ⟨sz73, by decide, fun _ => rfl, fun _ _ => rfl, fun h => (by cases h), fun _ => rfl, fun nl nt x => by simp only [e_api_Mark, cutAV, c_api_Mark_cut]⟩
theorem enc74 : Enc ty 74 3 e_api_Mark := ⟨sz74, by decide, fun _ => rfl, fun _ _ => rfl, fun h => (by cases h), fun _ => rfl, fun nl nt x => by simp only [e_api_Mark, cutAV, c_api_Mark_cut]⟩
structure trouble_fault where
  op : List (BitVec 8)
  at_ : Int
  code : Int
  under : Err
  deriving DecidableEq
def c_trouble_fault (x : trouble_fault) : List AV := [eS x.op, eI x.at_, eI x.code, eErr x.under]
def e_trouble_fault (x : trouble_fault) : AV := .agg (c_trouble_fault x)
def z_trouble_fault : trouble_fault := ⟨([] : List (BitVec 8)), (0 : Int), (0 : Int), Err.nil⟩
theorem c_trouble_fault_cut (nl nt : Nat → Option Nat) (x : trouble_fault) : cutL nl nt (c_trouble_fault x) = c_trouble_fault x := by simp only [cutL, e_trouble_fault, c_trouble_fault, cutAV, (enc_s td9 sz9).cut nl nt, (enc_i64 td3 sz3).cut nl nt, (enc_i64 td33 sz33).cut nl nt, encErr.cut nl nt]
theorem enc112 : Enc ty 112 4 e_trouble_fault := ⟨sz112, by decide, fun _ => rfl, fun _ _ => rfl, fun h => (by cases h), fun x => (by simp only [e_trouble_fault, c_trouble_fault, AV.cells, List.all_cons, List.all_nil, eErr_flat]; rfl), fun nl nt x => by simp only [e_trouble_fault, cutAV, c_trouble_fault_cut]⟩
theorem enc113 : Enc ty 113 4 e_trouble_fault := ⟨sz113, by decide, fun _ => rfl, fun _ _ => rfl, fun h => (by cases h), fun x => (by simp only [e_trouble_fault, c_trouble_fault, AV.cells, List.all_cons, List.all_nil, eErr_flat]; rfl), fun nl nt x => by simp only [e_trouble_fault, cutAV, c_trouble_fault_cut]⟩
structure butteryref02_Reader where
  B : List (BitVec 8)
  At : Int
  Code : Int
  deriving DecidableEq
def c_butteryref02_Reader (x : butteryref02_Reader) : List AV := [(eL 1 (@eU .u8 8)) x.B, eI x.At, eI x.Code]
def e_butteryref02_Reader (x : butteryref02_Reader) : AV := .agg (c_butteryref02_Reader x)
def z_butteryref02_Reader : butteryref02_Reader := ⟨([] : List (BitVec 8)), (0 : Int), (0 : Int)⟩
theorem c_butteryref02_Reader_cut (nl nt : Nat → Option Nat) (x : butteryref02_Reader) : cutL nl nt (c_butteryref02_Reader x) = c_butteryref02_Reader x := by simp only [cutL, e_butteryref02_Reader, c_butteryref02_Reader, cutAV, (enc_l td22 sz22 (enc_u td5 sz5).cut).cut nl nt, (enc_i64 td3 sz3).cut nl nt, (enc_i64 td33 sz33).cut nl nt]
theorem pc_butteryref02_Reader (x : butteryref02_Reader) : purL (c_butteryref02_Reader x) = true := by simp only [c_butteryref02_Reader, purL, purL_append, Bool.and_self, Bool.and_true, (show purA ((eL 1 (@eU .u8 8)) x.B) = true from (pur_eL (fun _ => rfl)) _), (show purA (eI x.At) = true from (fun _ => rfl) _), (show purA (eI x.Code) = true from (fun _ => rfl) _)]
theorem pur_butteryref02_Reader (x : butteryref02_Reader) : purA (e_butteryref02_Reader x) = true := pc_butteryref02_Reader x
theorem enc126 : Enc ty 126 3 e_butteryref02_Reader := ⟨sz126, by decide, fun _ => rfl, fun _ _ => rfl, fun h => (by cases h), fun _ => rfl, fun nl nt x => by simp only [e_butteryref02_Reader, cutAV, c_butteryref02_Reader_cut]⟩
theorem enc127 : Enc ty 127 3 e_butteryref02_Reader := ⟨sz127, by decide, fun _ => rfl, fun _ _ => rfl, fun h => (by cases h), fun _ => rfl, fun nl nt x => by simp only [e_butteryref02_Reader, cutAV, c_butteryref02_Reader_cut]⟩
structure octets_Reader where
  b : List (BitVec 8)
  at_ : Int
  code : Int
  deriving DecidableEq
def c_octets_Reader (x : octets_Reader) : List AV := [(eL 1 (@eU .u8 8)) x.b, eI x.at_, eI x.code]
def e_octets_Reader (x : octets_Reader) : AV := .agg (c_octets_Reader x)
def z_octets_Reader : octets_Reader := ⟨([] : List (BitVec 8)), (0 : Int), (0 : Int)⟩
theorem c_octets_Reader_cut (nl nt : Nat → Option Nat) (x : octets_Reader) : cutL nl nt (c_octets_Reader x) = c_octets_Reader x := by simp only [cutL, e_octets_Reader, c_octets_Reader, cutAV, (enc_l td22 sz22 (enc_u td5 sz5).cut).cut nl nt, (enc_i64 td3 sz3).cut nl nt, (enc_i64 td33 sz33).cut nl nt]
theorem pc_octets_Reader (x : octets_Reader) : purL (c_octets_Reader x) = true := by simp only [c_octets_Reader, purL, purL_append, Bool.and_self, Bool.and_true, (show purA ((eL 1 (@eU .u8 8)) x.b) = true from (pur_eL (fun _ => rfl)) _), (show purA (eI x.at_) = true from (fun _ => rfl) _), (show purA (eI x.code) = true from (fun _ => rfl) _)]
theorem pur_octets_Reader (x : octets_Reader) : purA (e_octets_Reader x) = true := pc_octets_Reader x
theorem enc169 : Enc ty 169 3 e_octets_Reader := ⟨sz169, by decide, fun _ => rfl, fun _ _ => rfl, fun h => (by cases h), fun _ => rfl, fun nl nt x => by simp only [e_octets_Reader, cutAV, c_octets_Reader_cut]⟩
theorem enc170 : Enc ty 170 3 e_octets_Reader := ⟨sz170, by decide, fun _ => rfl, fun _ _ => rfl, fun h => (by cases h), fun _ => rfl, fun nl nt x => by simp only [e_octets_Reader, cutAV, c_octets_Reader_cut]⟩
structure reflectlite_ValueError where
  Method : List (BitVec 8)
  Kind : BitVec 8
  deriving DecidableEq
def c_reflectlite_ValueError (x : reflectlite_ValueError) : List AV := [eS x.Method, (@eU .u8 8) x.Kind]
def e_reflectlite_ValueError (x : reflectlite_ValueError) : AV := .agg (c_reflectlite_ValueError x)
def z_reflectlite_ValueError : reflectlite_ValueError := ⟨([] : List (BitVec 8)), 0#8⟩
theorem c_reflectlite_ValueError_cut (nl nt : Nat → Option Nat) (x : reflectlite_ValueError) : cutL nl nt (c_reflectlite_ValueError x) = c_reflectlite_ValueError x := by simp only [cutL, e_reflectlite_ValueError, c_reflectlite_ValueError, cutAV, (enc_s td9 sz9).cut nl nt, (enc_u td164 sz164).cut nl nt]
theorem pc_reflectlite_ValueError (x : reflectlite_ValueError) : purL (c_reflectlite_ValueError x) = true := by simp only [c_reflectlite_ValueError, purL, purL_append, Bool.and_self, Bool.and_true, (show purA (eS x.Method) = true from (fun _ => rfl) _), (show purA ((@eU .u8 8) x.Kind) = true from (fun _ => rfl) _)]
theorem pur_reflectlite_ValueError (x : reflectlite_ValueError) : purA (e_reflectlite_ValueError x) = true := pc_reflectlite_ValueError x
theorem enc211 : Enc ty 211 2 e_reflectlite_ValueError := ⟨sz211, by decide, fun _ => rfl, fun _ _ => rfl, fun h => (by cases h), fun _ => rfl, fun nl nt x => by simp only [e_reflectlite_ValueError, cutAV, c_reflectlite_ValueError_cut]⟩
theorem enc212 : Enc ty 212 2 e_reflectlite_ValueError := ⟨sz212, by decide, fun _ => rfl, fun _ _ => rfl, fun h => (by cases h), fun _ => rfl, fun nl nt x => by simp only [e_reflectlite_ValueError, cutAV, c_reflectlite_ValueError_cut]⟩
structure abi_Method where
  Name : Int
  Mtyp : Int
  Ifn : Int
  Tfn : Int
  deriving DecidableEq
def c_abi_Method (x : abi_Method) : List AV := [(eK .i32) x.Name, (eK .i32) x.Mtyp, (eK .i32) x.Ifn, (eK .i32) x.Tfn]
def e_abi_Method (x : abi_Method) : AV := .agg (c_abi_Method x)
def z_abi_Method : abi_Method := ⟨(0 : Int), (0 : Int), (0 : Int), (0 : Int)⟩
theorem c_abi_Method_cut (nl nt : Nat → Option Nat) (x : abi_Method) : cutL nl nt (c_abi_Method x) = c_abi_Method x := by simp only [cutL, e_abi_Method, c_abi_Method, cutAV, (enc_i td205 sz205).cut nl nt, (enc_i td206 sz206).cut nl nt, (enc_i td218 sz218).cut nl nt, (enc_i td218 sz218).cut nl nt]
theorem pc_abi_Method (x : abi_Method) : purL (c_abi_Method x) = true := by simp only [c_abi_Method, purL, purL_append, Bool.and_self, Bool.and_true, (show purA ((eK .i32) x.Name) = true from (fun _ => rfl) _), (show purA ((eK .i32) x.Mtyp) = true from (fun _ => rfl) _), (show purA ((eK .i32) x.Ifn) = true from (fun _ => rfl) _), (show purA ((eK .i32) x.Tfn) = true from (fun _ => rfl) _)]
theorem pur_abi_Method (x : abi_Method) : purA (e_abi_Method x) = true := pc_abi_Method x
theorem enc219 : Enc ty 219 4 e_abi_Method := ⟨sz219, by decide, fun _ => rfl, fun _ _ => rfl, fun h => (by cases h), fun _ => rfl, fun nl nt x => by simp only [e_abi_Method, cutAV, c_abi_Method_cut]⟩
theorem enc220 : Enc ty 220 4 e_abi_Method := ⟨sz220, by decide, fun _ => rfl, fun _ _ => rfl, fun h => (by cases h), fun _ => rfl, fun nl nt x => by simp only [e_abi_Method, cutAV, c_abi_Method_cut]⟩
end Go.Proofs.YtkmlinaofbcbaaaDoor
namespace Go.Proofs.YtkmlinaofbcbaaaDoor
open Go Go.Va
set_option linter.unusedVariables false
set_option linter.unusedSimpArgs false
set_option maxRecDepth 20000
noncomputable def butterylaw06_Light_b0 (x0 : List api_Entry) (c6 : Int) (c7 : Int) : Option ((Int × Int) ⊕ (Unit ⊕ (Int))) :=
  lt (((x0).length : Int)) fun v18 =>
  lt (decide (c7 < v18)) fun v20 =>
  if v20 = true then
    (
      (ix x0 c7).bind fun v27 =>
      lt (((v27.Key).length : Int)) fun v29 =>
      lt (decide (v29 > (200 : Int))) fun v31 =>
      if v31 = true then
        some true
      else
        (ix x0 c7).bind fun v34 =>
        lt (((v34.Value).length : Int)) fun v36 =>
        lt (decide (v36 > (5000 : Int))) fun v38 =>
        some v38
     : Option (Bool)).bind fun s22 =>
      if s22 = true then
        some (.inr (.inr (1 : Int)))
      else
        (ix x0 c7).bind fun v43 =>
        lt (((v43.Value).length : Int)) fun v45 =>
        lt (w64 (c6 + v45)) fun v47 =>
        lt (decide (v47 > (12000 : Int))) fun v49 =>
        if v49 = true then
          some (.inr (.inr (1 : Int)))
        else
          lt (w64 (c7 + (1 : Int))) fun v53 =>
          some (.inl (v47, v53))
  else
    some (.inr (.inl ()))
noncomputable def butterylaw06_Light_l0 (x0 : List api_Entry) (s : Int × Int) : Option (Unit ⊕ (Int)) := loopO (fun s => butterylaw06_Light_b0 x0 s.1 s.2) s
noncomputable def butterylaw06_Light (x0 : List api_Entry) : Option (Int) :=
  lt (((x0).length : Int)) fun v2 =>
  lt (decide (v2 > (40 : Int))) fun v4 =>
  if v4 = true then
    some (1 : Int)
  else
    (butterylaw06_Light_l0 x0 ((0 : Int), (0 : Int))).bind fun o8 =>
      Sum.elim (fun s15 : Unit =>
        some (0 : Int)
        ) (fun y => some y) o8
end Go.Proofs.YtkmlinaofbcbaaaDoor
namespace Go.Proofs.YtkmlinaofbcbaaaDoor
open Go Go.Va
set_option linter.unusedVariables false
set_option linter.unusedSimpArgs false
set_option maxRecDepth 20000
noncomputable def butteryref02_Same_b0 (x0 : List (BitVec 8)) (x1 : List (BitVec 8)) (c8 : Int) : Option ((Int) ⊕ (Unit ⊕ (Bool))) :=
  lt (((x0).length : Int)) fun v19 =>
  lt (decide (c8 < v19)) fun v21 =>
  if v21 = true then
    (ix x0 c8).bind fun v24 =>
    (ix x1 c8).bind fun v26 =>
    lt (v24 != v26) fun v28 =>
    if v28 = true then
      some (.inr (.inr false))
    else
      lt (w64 (c8 + (1 : Int))) fun v32 =>
      some (.inl v32)
  else
    some (.inr (.inl ()))
noncomputable def butteryref02_Same_l0 (x0 : List (BitVec 8)) (x1 : List (BitVec 8)) (s : Int) : Option (Unit ⊕ (Bool)) := loopO (fun s => butteryref02_Same_b0 x0 x1 s) s
noncomputable def butteryref02_Same (x0 : List (BitVec 8)) (x1 : List (BitVec 8)) : Option (Bool) :=
  lt (((x0).length : Int)) fun v2 =>
  lt (((x1).length : Int)) fun v4 =>
  lt (v2 != v4) fun v6 =>
  if v6 = true then
    some false
  else
    (butteryref02_Same_l0 x0 x1 (0 : Int)).bind fun o9 =>
      Sum.elim (fun s16 : Unit =>
        some true
        ) (fun y => some y) o9
end Go.Proofs.YtkmlinaofbcbaaaDoor
namespace Go.Proofs.YtkmlinaofbcbaaaDoor
open Go Go.Va
set_option linter.unusedVariables false
set_option linter.unusedSimpArgs false
set_option maxRecDepth 20000
noncomputable def butteryref06_Same (x0 : api_Entry) (x1 : api_Entry) : Option (Bool) :=
  lt (x0.Key == x1.Key) fun v2 =>
  if v2 = true then
    lt (x0.Version == x1.Version) fun v5 =>
    if v5 = true then
      lt (x0.AsOf == x1.AsOf) fun v8 =>
      if v8 = true then
        lt (x0.Ends == x1.Ends) fun v11 =>
        if v11 = true then
          (butteryref02_Same x0.Value x1.Value).bind fun v14 =>
          some v14
        else
          some false
      else
        some false
    else
      some false
  else
    some false
end Go.Proofs.YtkmlinaofbcbaaaDoor
namespace Go.Proofs.YtkmlinaofbcbaaaDoor
open Go Go.Va
set_option linter.unusedVariables false
set_option linter.unusedSimpArgs false
set_option maxRecDepth 20000
noncomputable def butteryref06_SameAll_b0 (x0 : List api_Entry) (x1 : List api_Entry) (c8 : Int) : Option ((Int) ⊕ (Unit ⊕ (Bool))) :=
  lt (((x0).length : Int)) fun v19 =>
  lt (decide (c8 < v19)) fun v21 =>
  if v21 = true then
    (ix x0 c8).bind fun v24 =>
    (ix x1 c8).bind fun v26 =>
    (butteryref06_Same v24 v26).bind fun v28 =>
    lt (!v28) fun v30 =>
    if v30 = true then
      some (.inr (.inr false))
    else
      lt (w64 (c8 + (1 : Int))) fun v34 =>
      some (.inl v34)
  else
    some (.inr (.inl ()))
noncomputable def butteryref06_SameAll_l0 (x0 : List api_Entry) (x1 : List api_Entry) (s : Int) : Option (Unit ⊕ (Bool)) := loopO (fun s => butteryref06_SameAll_b0 x0 x1 s) s
noncomputable def butteryref06_SameAll (x0 : List api_Entry) (x1 : List api_Entry) : Option (Bool) :=
  lt (((x0).length : Int)) fun v2 =>
  lt (((x1).length : Int)) fun v4 =>
  lt (v2 != v4) fun v6 =>
  if v6 = true then
    some false
  else
    (butteryref06_SameAll_l0 x0 x1 (0 : Int)).bind fun o9 =>
      Sum.elim (fun s16 : Unit =>
        some true
        ) (fun y => some y) o9
end Go.Proofs.YtkmlinaofbcbaaaDoor
namespace Go.Va
open Go
set_option linter.unusedVariables false
set_option linter.unusedSimpArgs false

theorem loopO_up {S X : Type} {body : S → Option (S ⊕ X)} (g : Nat → S) (n : Nat) {x : X} (h : ∀ i, i < n → body (g i) = some (.inl (g (i + 1)))) (hx : body (g n) = some (.inr x)) : loopO body (g 0) = some x := by
  have key : ∀ k, k ≤ n → loopO body (g (n - k)) = some x := by
    intro k
    induction k with
    | zero => intro _; exact loopO_out hx
    | succ k ih =>
      intro hk
      rw [loopO_in (h (n - (k + 1)) (by omega)), show n - (k + 1) + 1 = n - k by omega]
      exact ih (by omega)
  have := key n (Nat.le_refl _)
  rwa [Nat.sub_self] at this
/-- What a round comes to that may leave. -/
def nx {S X : Type} (o : Option X) (s : S) : S ⊕ X := match o with | none => .inl s | some y => .inr y
/-- A loop that leaves early, at the first round that says so. -/
theorem loopO_find {S X : Type} {body : S → Option (S ⊕ X)} (g : Nat → S) (n : Nat) (f : Nat → Option X) {x : X} (h : ∀ i, i < n → body (g i) = some (nx (f i) (g (i + 1)))) (hx : body (g n) = some (.inr x)) : loopO body (g 0) = some (((List.range n).findSome? f).getD x) := by
  have key : ∀ k, k ≤ n → loopO body (g (n - k)) = some (((List.range' (n - k) k).findSome? f).getD x) := by
    intro k
    induction k with
    | zero => intro _; exact loopO_out hx
    | succ k ih =>
      intro hk
      rw [List.range'_succ, List.findSome?_cons]
      have h1 := h (n - (k + 1)) (by omega)
      cases hf : f (n - (k + 1)) with
      | none =>
        rw [hf] at h1
        rw [loopO_in (s' := g (n - (k + 1) + 1)) h1, show n - (k + 1) + 1 = n - k by omega]
        exact ih (by omega)
      | some y => rw [hf] at h1; exact loopO_out h1
  have := key n (Nat.le_refl _)
  rwa [Nat.sub_self, ← List.range_eq_range'] at this
theorem loopO_inv {S X : Type} {body : S → Option (S ⊕ X)} (I : S → Prop) (m : S → Nat) (Q : X → Prop) (h : ∀ s, I s → (∃ s', body s = some (.inl s') ∧ I s' ∧ m s' < m s) ∨ ∃ x, body s = some (.inr x) ∧ Q x) {s : S} (h0 : I s) : ∃ x, loopO body s = some x ∧ Q x := by
  generalize hk : m s = k
  induction k using Nat.strongRecOn generalizing s with
  | _ k ih =>
    rcases h s h0 with ⟨s', h1, h2, h3⟩ | ⟨x, h1, h2⟩
    · obtain ⟨x, k1, k2⟩ := ih (m s') (hk ▸ h3) h2 rfl
      exact ⟨x, by rw [loopO_in h1]; exact k1, k2⟩
    · exact ⟨x, loopO_out h1, h2⟩
/-- A loop that goes through a list. -/
theorem loopO_foldl {α σ X : Type} (l : List α) (f : σ → α → σ) (fin : σ → X) {body : σ × Int → Option ((σ × Int) ⊕ X)} (h1 : ∀ (s : σ) (i : Nat) (hi : i < l.length), body (s, (i : Int)) = some (.inl (f s l[i], ((i + 1 : Nat) : Int)))) (h2 : ∀ s, body (s, (l.length : Int)) = some (.inr (fin s))) (s0 : σ) : loopO body (s0, 0) = some (fin (l.foldl f s0)) := by
  have := loopO_up (body := body) (fun i => ((l.take i).foldl f s0, (i : Int))) l.length (x := fin (l.foldl f s0)) (fun i hi => by
    rw [h1 _ i hi, List.take_succ_eq_append_getElem hi, List.foldl_append]; rfl) (by rw [List.take_length]; exact h2 _)
  simpa using this
/-- A number of rounds. -/
theorem ix_nat {α : Type} {l : List α} {i : Nat} (h : i < l.length) : ix l (i : Int) = some l[i] := by
  unfold ix
  rw [if_pos (by omega)]
  simp [h]
theorem ix_get {α : Type} (l : List α) (i : Nat) : ix l (i : Int) = l[i]? := by
  unfold ix
  rw [if_pos (by omega)]
  simp
theorem ixA_nat {α : Type} {l : List α} {n i : Nat} (hn : i < n) (h : i < l.length) : ixA n l (i : Int) = some l[i] := by
  unfold ixA
  rw [if_pos ⟨by omega, by omega⟩]
  simp [h]
theorem w64_nat {i : Nat} (h : i < 9223372036854775807) : w64 ((i : Int) + 1) = ((i + 1 : Nat) : Int) := by
  rw [w64_eq (by omega) (by omega)]; omega
theorem whole_eq {α : Type} {n : Nat} {l : List α} (h : l.length = n) : whole n l = some l := by simp [whole, h]
theorem stW_eq {α : Type} {n : Nat} {l y : List α} (h : l.length = n) (h2 : y.length = n) : stW n l y = some y := by simp [stW, whole, h, h2]
theorem app_eq {α : Type} {b : Nat} {l m : List α} (h : (l.length + m.length) * b ≤ 140737488355328) : app b l m = some (l ++ m) := by simp [app, h]
theorem cutTo_eq {α : Type} {l : List α} {n : Nat} (h : n ≤ l.length) : cutTo l (n : Int) = some (l.take n) := by
  unfold cutTo
  rw [if_pos ⟨by omega, by omega⟩]; simp
theorem cutFrom_eq {α : Type} {l : List α} {n : Nat} (h : n ≤ l.length) : cutFrom l (n : Int) = some (l.drop n) := by
  unfold cutFrom
  rw [if_pos ⟨by omega, by omega⟩]; simp
theorem cutO_eq {α : Type} {l : List α} {n m : Nat} (h : n ≤ m) (h2 : m ≤ l.length) : cutO l (n : Int) (m : Int) = some ((l.take m).drop n) := by
  unfold cutO
  rw [if_pos ⟨by omega, by omega, by omega⟩]; simp
theorem sc_eq {y : Int} (h : 0 ≤ y) : sc y = some y.toNat := by
  unfold sc; rw [if_neg (by omega)]
theorem map_len_foldl {α σ : Type} (P : σ → Prop) (f : σ → α → σ) (h : ∀ s a, P s → P (f s a)) : ∀ (l : List α) (s : σ), P s → P (l.foldl f s)
  | [], s, hs => hs
  | a :: l, s, hs => map_len_foldl P f h l _ (h s a hs)
end Go.Va
namespace Go.Proofs.YtkmlinaofbcbaaaDoor
open Go Go.Va
set_option linter.unusedVariables false
set_option linter.unusedSimpArgs false
set_option maxRecDepth 20000
/-- The code of a fault: of the first one under it that has one. -/
def codeOf : Err → Int
  | .nil => 0
  | .fault o a c u => if c = 0 then codeOf u else c
def trouble_Of_b0 : Err → Option (Err ⊕ (Unit ⊕ Int))
  | .nil => some (.inr (.inl ()))
  | .fault o a c u => if (c != 0) = true then some (.inr (.inr c)) else some (.inl u)
def trouble_Of (x : Err) : Option Int := some (codeOf x)
theorem trouble_Of_l0 : ∀ x : Err, loopO trouble_Of_b0 x = some (if codeOf x = 0 then .inl () else .inr (codeOf x))
  | .nil => loopO_out rfl
  | .fault o a c u => by
    by_cases hc : c = 0
    · rw [loopO_in (s' := u) (by simp [trouble_Of_b0, hc]), trouble_Of_l0 u]; simp [codeOf, hc]
    · rw [loopO_out (x := .inr c) (by simp [trouble_Of_b0, hc])]; simp [codeOf, hc]
end Go.Proofs.YtkmlinaofbcbaaaDoor
namespace Go.Proofs.YtkmlinaofbcbaaaDoor
open Go Go.Va
set_option linter.unusedVariables false
set_option linter.unusedSimpArgs false
set_option maxRecDepth 20000
noncomputable def bucket_Find_1_c (x0 : api_Entry) (x1 : List (BitVec 8)) : Option (Bool) :=
  lt (x0.Key == x1) fun v2 =>
  some v2
end Go.Proofs.YtkmlinaofbcbaaaDoor
namespace Go.Proofs.YtkmlinaofbcbaaaDoor
open Go Go.Va
set_option linter.unusedVariables false
set_option linter.unusedSimpArgs false
set_option maxRecDepth 20000
noncomputable def slices_IndexFunc_api_Entry_api_Entry_bucket_Find_1_c_b0 (x0 : List api_Entry) (x1 : List (BitVec 8)) (v2 : Int) (c3 : Int) : Option ((Int) ⊕ (Unit ⊕ (Int))) :=
  lt (decide (c3 < v2)) fun v14 =>
  if v14 = true then
    (ix x0 c3).bind fun v17 =>
    (bucket_Find_1_c v17 x1).bind fun v19 =>
    if v19 = true then
      some (.inr (.inr c3))
    else
      lt (w64 (c3 + (1 : Int))) fun v23 =>
      some (.inl v23)
  else
    some (.inr (.inl ()))
noncomputable def slices_IndexFunc_api_Entry_api_Entry_bucket_Find_1_c_l0 (x0 : List api_Entry) (x1 : List (BitVec 8)) (v2 : Int) (s : Int) : Option (Unit ⊕ (Int)) := loopO (fun s => slices_IndexFunc_api_Entry_api_Entry_bucket_Find_1_c_b0 x0 x1 v2 s) s
noncomputable def slices_IndexFunc_api_Entry_api_Entry_bucket_Find_1_c (x0 : List api_Entry) (x1 : List (BitVec 8)) : Option (Int) :=
  lt (((x0).length : Int)) fun v2 =>
  (slices_IndexFunc_api_Entry_api_Entry_bucket_Find_1_c_l0 x0 x1 v2 (0 : Int)).bind fun o4 =>
    Sum.elim (fun s11 : Unit =>
      some (-1 : Int)
      ) (fun y => some y) o4
end Go.Proofs.YtkmlinaofbcbaaaDoor
namespace Go.Proofs.YtkmlinaofbcbaaaDoor
open Go Go.Va
set_option linter.unusedVariables false
set_option linter.unusedSimpArgs false
set_option maxRecDepth 20000
noncomputable def bucket_Find (x0 : List api_Entry) (x1 : List (BitVec 8)) : Option (Int) :=
  (slices_IndexFunc_api_Entry_api_Entry_bucket_Find_1_c x0 x1).bind fun v4 =>
  some v4
end Go.Proofs.YtkmlinaofbcbaaaDoor
namespace Go.Proofs.YtkmlinaofbcbaaaDoor
open Go Go.Va
set_option linter.unusedVariables false
set_option linter.unusedSimpArgs false
set_option maxRecDepth 20000
noncomputable def trouble_Wrap (x0 : List (BitVec 8)) (x1 : Int) (x2 : Err) : Option (Err) :=
  lt (Err.isNil x2) fun v2 =>
  if v2 = true then
    some Err.nil
  else
    lt ((⟨x0, x1, (0 : Int), x2⟩ : trouble_fault)) fun v5 =>
    some (Err.fault v5.op v5.at_ v5.code v5.under)
end Go.Proofs.YtkmlinaofbcbaaaDoor
namespace Go.Proofs.YtkmlinaofbcbaaaDoor
open Go Go.Va
set_option linter.unusedVariables false
set_option linter.unusedSimpArgs false
set_option maxRecDepth 20000
noncomputable def trouble_New (x0 : List (BitVec 8)) (x1 : Int) (x2 : Int) : Option (Err) :=
  lt (x2 == (0 : Int)) fun v2 =>
  if v2 = true then
    some Err.nil
  else
    lt ((⟨x0, x1, x2, Err.nil⟩ : trouble_fault)) fun v5 =>
    some (Err.fault v5.op v5.at_ v5.code v5.under)
end Go.Proofs.YtkmlinaofbcbaaaDoor
namespace Go.Proofs.YtkmlinaofbcbaaaDoor
open Go Go.Va
set_option linter.unusedVariables false
set_option linter.unusedSimpArgs false
set_option maxRecDepth 20000
noncomputable def octets_Reader_Fail (x0 : octets_Reader) (x1 : Int) : Option (octets_Reader) :=
  lt (x0.code == (0 : Int)) fun v2 =>
  if v2 = true then
    lt (({ x0 with code := x1 } : octets_Reader)) fun c5 =>
    some c5
  else
    some x0
end Go.Proofs.YtkmlinaofbcbaaaDoor
namespace Go.Proofs.YtkmlinaofbcbaaaDoor
open Go Go.Va
set_option linter.unusedVariables false
set_option linter.unusedSimpArgs false
set_option maxRecDepth 20000
noncomputable def item_Check_1_c (x0 : List (BitVec 8)) (x1 : Int) (x2 : Int) (x3 : Err) : Option (Err) :=
  (
    lt (Err.isNil x3) fun v6 =>
    if v6 = true then
      lt (decide (x1 < x2)) fun v9 =>
      if v9 = true then
        some true
      else
        lt (decide (x1 > (1099511627776 : Int))) fun v12 =>
        some v12
    else
      some false
   : Option (Bool)).bind fun s1 =>
    if s1 = true then
      (trouble_New x0 x1 (2 : Int)).bind fun v16 =>
      lt ((v16 : Err)) fun c18 =>
      some c18
    else
      some x3
end Go.Proofs.YtkmlinaofbcbaaaDoor
namespace Go.Proofs.YtkmlinaofbcbaaaDoor
open Go Go.Va
set_option linter.unusedVariables false
set_option linter.unusedSimpArgs false
set_option maxRecDepth 20000
noncomputable def octets_Key (x0 : List (BitVec 8)) : Option (Int) :=
  lt (((x0).length : Int)) fun v2 =>
  lt (v2 == (0 : Int)) fun v4 =>
  if v4 = true then
    some (1 : Int)
  else
    lt (decide (v2 > (40 : Int))) fun v7 =>
    if v7 = true then
      some (3 : Int)
    else
      some (0 : Int)
end Go.Proofs.YtkmlinaofbcbaaaDoor
namespace Go.Proofs.YtkmlinaofbcbaaaDoor
open Go Go.Va
set_option linter.unusedVariables false
set_option linter.unusedSimpArgs false
set_option maxRecDepth 20000
noncomputable def item_Check (x0 : api_Entry) : Option (Err) :=
  (octets_Key x0.Key).bind fun v2 =>
  lt (v2 != (0 : Int)) fun v4 =>
  if v4 = true then
    lt (((x0.Key).length : Int)) fun v7 =>
    (trouble_New ([107#8, 101#8, 121#8] : List (BitVec 8)) v7 v2).bind fun v9 =>
    some v9
  else
    (item_Check_1_c ([118#8, 101#8, 114#8, 115#8, 105#8, 111#8, 110#8] : List (BitVec 8)) x0.Version (1 : Int) Err.nil).bind fun v13 =>
    (item_Check_1_c ([97#8, 115#8, 111#8, 102#8] : List (BitVec 8)) x0.AsOf x0.Version v13).bind fun v15 =>
    (item_Check_1_c ([101#8, 110#8, 100#8, 115#8] : List (BitVec 8)) x0.Ends (0 : Int) v15).bind fun v17 =>
    (
      lt (Err.isNil v17) fun v23 =>
      if v23 = true then
        lt (((x0.Value).length : Int)) fun v26 =>
        lt (decide (v26 > (4096 : Int))) fun v28 =>
        some v28
      else
        some false
     : Option (Bool)).bind fun s18 =>
      if s18 = true then
        lt (((x0.Value).length : Int)) fun v32 =>
        (trouble_New ([118#8, 97#8, 108#8, 117#8, 101#8] : List (BitVec 8)) v32 (3 : Int)).bind fun v34 =>
        lt ((v34 : Err)) fun c36 =>
        some c36
      else
        some v17
end Go.Proofs.YtkmlinaofbcbaaaDoor
namespace Go.Proofs.YtkmlinaofbcbaaaDoor
open Go Go.Va
set_option linter.unusedVariables false
set_option linter.unusedSimpArgs false
set_option maxRecDepth 20000
noncomputable def octets_Reader_Number_b0 (x1 : Int) (c1 : Int) (c2 : Int) (c3 : octets_Reader) : Option ((Int × Int × octets_Reader) ⊕ (octets_Reader ⊕ (Int × octets_Reader))) :=
  lt (c3.code == (0 : Int)) fun v14 =>
  if v14 = true then
    lt (((c3.b).length : Int)) fun v17 =>
    lt (decide (c2 ≥ v17)) fun v19 =>
    if v19 = true then
      (octets_Reader_Fail c3 (6 : Int)).bind fun v22 =>
      some (.inr (.inl v22))
    else
      (ix c3.b c2).bind fun v24 =>
      lt (w64 (c2 + (1 : Int))) fun v26 =>
      (
        lt (v24 == 128#8) fun v32 =>
        if v32 = true then
          lt (c1 == (0 : Int)) fun v35 =>
          if v35 = true then
            lt (w64 (c3.at_ + (1 : Int))) fun v38 =>
            lt (v26 == v38) fun v40 =>
            some v40
          else
            some false
        else
          some false
       : Option (Bool)).bind fun s27 =>
        if s27 = true then
          (octets_Reader_Fail c3 (5 : Int)).bind fun v44 =>
          some (.inl (c1, v26, v44))
        else
          lt (shr64 x1 7) fun v46 =>
          lt (decide (c1 > v46)) fun v48 =>
          if v48 = true then
            (octets_Reader_Fail c3 (2 : Int)).bind fun v51 =>
            some (.inl (c1, v26, v51))
          else
            lt (decide (128#8 ≤ v24)) fun v53 =>
            if v53 = true then
              lt (shl64 c1 7) fun v56 =>
              lt (v24 &&& 127#8) fun v58 =>
              lt ((BitVec.toNat v58 : Int)) fun v60 =>
              lt (or64 v56 v60) fun v62 =>
              some (.inl (v62, v26, c3))
            else
              lt (shl64 c1 7) fun v64 =>
              lt ((BitVec.toNat v24 : Int)) fun v66 =>
              lt (or64 v64 v66) fun v68 =>
              lt (decide (v68 > x1)) fun v70 =>
              if v70 = true then
                (octets_Reader_Fail c3 (2 : Int)).bind fun v73 =>
                some (.inl (v68, v26, v73))
              else
                lt (({ c3 with at_ := v26 } : octets_Reader)) fun c75 =>
                some (.inr (.inr (v68, c75)))
  else
    some (.inr (.inl c3))
noncomputable def octets_Reader_Number_l0 (x1 : Int) (s : Int × Int × octets_Reader) : Option (octets_Reader ⊕ (Int × octets_Reader)) := loopO (fun s => octets_Reader_Number_b0 x1 s.1 s.2.1 s.2.2) s
noncomputable def octets_Reader_Number (x0 : octets_Reader) (x1 : Int) : Option (Int × octets_Reader) :=
  (octets_Reader_Number_l0 x1 ((0 : Int), x0.at_, x0)).bind fun o4 =>
    Sum.elim (fun s11 : octets_Reader =>
      some ((0 : Int), s11)
      ) (fun y => some y) o4
end Go.Proofs.YtkmlinaofbcbaaaDoor
namespace Go.Proofs.YtkmlinaofbcbaaaDoor
open Go Go.Va
set_option linter.unusedVariables false
set_option linter.unusedSimpArgs false
set_option maxRecDepth 20000
noncomputable def octets_Reader_Code (x0 : octets_Reader) : Option (Int) :=
  some x0.code
end Go.Proofs.YtkmlinaofbcbaaaDoor
namespace Go.Proofs.YtkmlinaofbcbaaaDoor
open Go Go.Va
set_option linter.unusedVariables false
set_option linter.unusedSimpArgs false
set_option maxRecDepth 20000
noncomputable def octets_Reader_Left (x0 : octets_Reader) : Option (Int) :=
  lt (((x0.b).length : Int)) fun v2 =>
  lt (w64 (v2 - x0.at_)) fun v4 =>
  some v4
end Go.Proofs.YtkmlinaofbcbaaaDoor
namespace Go.Proofs.YtkmlinaofbcbaaaDoor
open Go Go.Va
set_option linter.unusedVariables false
set_option linter.unusedSimpArgs false
set_option maxRecDepth 20000
noncomputable def octets_Reader_Bytes (x0 : octets_Reader) (x1 : Int) : Option ((List (BitVec 8)) × octets_Reader) :=
  (octets_Reader_Number x0 x1).bind fun v2 =>
  lt (v2.2.code != (0 : Int)) fun v4 =>
  if v4 = true then
    some ([], v2.2)
  else
    (octets_Reader_Left v2.2).bind fun v7 =>
    lt (decide (v2.1 > v7)) fun v9 =>
    if v9 = true then
      lt (({ v2.2 with at_ := x0.at_ } : octets_Reader)) fun c12 =>
      (octets_Reader_Fail c12 (6 : Int)).bind fun v15 =>
      some ([], v15)
    else
      lt (w64 (v2.2.at_ + v2.1)) fun v17 =>
      (cutO v2.2.b v2.2.at_ v17).bind fun v19 =>
      (app 1 ([] : List (BitVec 8)) v19).bind fun v21 =>
      lt (w64 (v2.2.at_ + v2.1)) fun v25 =>
      lt (({ v2.2 with at_ := v25 } : octets_Reader)) fun c27 =>
      some (v21, c27)
end Go.Proofs.YtkmlinaofbcbaaaDoor
namespace Go.Proofs.YtkmlinaofbcbaaaDoor
open Go Go.Va
set_option linter.unusedVariables false
set_option linter.unusedSimpArgs false
set_option maxRecDepth 20000
noncomputable def item_From (x0 : octets_Reader) : Option (api_Entry × octets_Reader) :=
  (octets_Reader_Bytes x0 (40 : Int)).bind fun v4 =>
  (octets_Reader_Number v4.2 (1099511627776 : Int)).bind fun v9 =>
  (octets_Reader_Number v9.2 (1099511627776 : Int)).bind fun v12 =>
  (octets_Reader_Number v12.2 (1099511627776 : Int)).bind fun v15 =>
  (octets_Reader_Bytes v15.2 (4096 : Int)).bind fun v18 =>
  (octets_Reader_Code v18.2).bind fun v21 =>
  lt (v21 == (0 : Int)) fun v23 =>
  (
    if v23 = true then
      (item_Check ({ ({ ({ ({ ((⟨v4.1, (0 : Int), (0 : Int), (0 : Int), ([] : List (BitVec 8))⟩ : api_Entry) : api_Entry) with Version := v9.1 } : api_Entry) with AsOf := v12.1 } : api_Entry) with Ends := v15.1 } : api_Entry) with Value := v18.1 } : api_Entry)).bind fun v30 =>
      lt (!Err.isNil v30) fun v32 =>
      if v32 = true then
        (trouble_Of v30).bind fun v35 =>
        (octets_Reader_Fail v18.2 v35).bind fun v37 =>
        some v37
      else
        some v18.2
    else
      some v18.2
   : Option (octets_Reader)).bind fun s24 =>
    (octets_Reader_Code s24).bind fun v40 =>
    lt (v40 != (0 : Int)) fun v42 =>
    if v42 = true then
      some (((⟨([] : List (BitVec 8)), (0 : Int), (0 : Int), (0 : Int), ([] : List (BitVec 8))⟩ : api_Entry) : api_Entry), s24)
    else
      some ((({ ({ ({ ({ ((⟨v4.1, (0 : Int), (0 : Int), (0 : Int), ([] : List (BitVec 8))⟩ : api_Entry) : api_Entry) with Version := v9.1 } : api_Entry) with AsOf := v12.1 } : api_Entry) with Ends := v15.1 } : api_Entry) with Value := v18.1 } : api_Entry) : api_Entry), s24)
end Go.Proofs.YtkmlinaofbcbaaaDoor
namespace Go.Proofs.YtkmlinaofbcbaaaDoor
open Go Go.Va
set_option linter.unusedVariables false
set_option linter.unusedSimpArgs false
set_option maxRecDepth 20000
noncomputable def octets_Read (x0 : List (BitVec 8)) : Option (octets_Reader) :=
  (app 1 ([] : List (BitVec 8)) x0).bind fun v2 =>
  lt ((⟨v2, (0 : Int), (0 : Int)⟩ : octets_Reader)) fun v6 =>
  some v6
end Go.Proofs.YtkmlinaofbcbaaaDoor
namespace Go.Proofs.YtkmlinaofbcbaaaDoor
open Go Go.Va
set_option linter.unusedVariables false
set_option linter.unusedSimpArgs false
set_option maxRecDepth 20000
noncomputable def octets_Reader_At (x0 : octets_Reader) : Option (Int) :=
  some x0.at_
end Go.Proofs.YtkmlinaofbcbaaaDoor
namespace Go.Proofs.YtkmlinaofbcbaaaDoor
open Go Go.Va
set_option linter.unusedVariables false
set_option linter.unusedSimpArgs false
set_option maxRecDepth 20000
noncomputable def item_Read_b0  (c5 : List api_Entry) (c6 : octets_Reader) : Option (((List api_Entry) × octets_Reader) ⊕ (((List api_Entry) × octets_Reader) ⊕ ((List api_Entry) × Err))) :=
  (
    (octets_Reader_Code c6).bind fun v22 =>
    lt (v22 == (0 : Int)) fun v24 =>
    if v24 = true then
      (octets_Reader_Left c6).bind fun v27 =>
      lt (decide (v27 > (0 : Int))) fun v29 =>
      some v29
    else
      some false
   : Option (Bool)).bind fun s17 =>
    if s17 = true then
      (octets_Reader_At c6).bind fun v33 =>
      (item_From c6).bind fun v35 =>
      (octets_Reader_Code v35.2).bind fun v40 =>
      lt (v40 != (0 : Int)) fun v42 =>
      if v42 = true then
        lt (((c5).length : Int)) fun v45 =>
        (octets_Reader_Code v35.2).bind fun v47 =>
        (trouble_New ([101#8, 110#8, 116#8, 114#8, 121#8] : List (BitVec 8)) v33 v47).bind fun v49 =>
        (trouble_Wrap ([101#8, 110#8, 116#8, 114#8, 105#8, 101#8, 115#8] : List (BitVec 8)) v45 v49).bind fun v51 =>
        some (.inr (.inr ([], v51)))
      else
        lt (([(v35.1 : api_Entry)] : List api_Entry)) fun v54 =>
        (app 64 c5 v54).bind fun v56 =>
        some (.inl (v56, v35.2))
    else
      some (.inr (.inl (c5, c6)))
noncomputable def item_Read_l0  (s : (List api_Entry) × octets_Reader) : Option (((List api_Entry) × octets_Reader) ⊕ ((List api_Entry) × Err)) := loopO (fun s => item_Read_b0 s.1 s.2) s
noncomputable def item_Read (x0 : List (BitVec 8)) : Option ((List api_Entry) × Err) :=
  (octets_Read x0).bind fun v2 =>
  (item_Read_l0 ([], v2)).bind fun o8 =>
    Sum.elim (fun s15 : (List api_Entry) × octets_Reader =>
      some (s15.1, Err.nil)
      ) (fun y => some y) o8
end Go.Proofs.YtkmlinaofbcbaaaDoor
namespace Go.Proofs.YtkmlinaofbcbaaaDoor
open Go Go.Va
set_option linter.unusedVariables false
set_option linter.unusedSimpArgs false
set_option maxRecDepth 20000
noncomputable def bucket_Read_b0 (v2 : (List api_Entry) × Err) (v11 : Int) (c12 : Int) : Option ((Int) ⊕ (Unit ⊕ ((List api_Entry) × Err))) :=
  lt (decide (c12 < v11)) fun v23 =>
  if v23 = true then
    (ix v2.1 c12).bind fun v26 =>
    (cutTo v2.1 c12).bind fun v31 =>
    (bucket_Find v31 ((v26 : api_Entry).Key)).bind fun v33 =>
    lt (decide (v33 ≥ (0 : Int))) fun v35 =>
    if v35 = true then
      (trouble_New ([98#8, 117#8, 99#8, 107#8, 101#8, 116#8] : List (BitVec 8)) c12 (13 : Int)).bind fun v38 =>
      some (.inr (.inr ([], v38)))
    else
      lt (w64 (c12 + (1 : Int))) fun v41 =>
      some (.inl v41)
  else
    some (.inr (.inl ()))
noncomputable def bucket_Read_l0 (v2 : (List api_Entry) × Err) (v11 : Int) (s : Int) : Option (Unit ⊕ ((List api_Entry) × Err)) := loopO (fun s => bucket_Read_b0 v2 v11 s) s
noncomputable def bucket_Read (x0 : List (BitVec 8)) : Option ((List api_Entry) × Err) :=
  (item_Read x0).bind fun v2 =>
  lt (!Err.isNil v2.2) fun v4 =>
  if v4 = true then
    lt (((x0).length : Int)) fun v7 =>
    (trouble_Wrap ([98#8, 117#8, 99#8, 107#8, 101#8, 116#8] : List (BitVec 8)) v7 v2.2).bind fun v9 =>
    some ([], v9)
  else
    lt (((v2.1).length : Int)) fun v11 =>
    (bucket_Read_l0 v2 v11 (0 : Int)).bind fun o13 =>
      Sum.elim (fun s20 : Unit =>
        some (v2.1, Err.nil)
        ) (fun y => some y) o13
end Go.Proofs.YtkmlinaofbcbaaaDoor
namespace Go.Proofs.YtkmlinaofbcbaaaDoor
open Go Go.Va
set_option linter.unusedVariables false
set_option linter.unusedSimpArgs false
set_option maxRecDepth 20000
noncomputable def octets_Put_b1 (x1 : List Int) (v6 : Int) (c7 : List (BitVec 8)) (c8 : Int) (v22 : Int) (c23 : Int) : Option ((Int) ⊕ (Int)) :=
  lt (w64 ((7 : Int) * c23)) fun v34 =>
  ((sc v34).map fun m => shr64 v22 m).bind fun v36 =>
  lt (decide (v36 ≥ (128 : Int))) fun v38 =>
  if v38 = true then
    lt (w64 (c23 + (1 : Int))) fun v41 =>
    some (.inl v41)
  else
    some (.inr c23)
noncomputable def octets_Put_l1 (x1 : List Int) (v6 : Int) (c7 : List (BitVec 8)) (c8 : Int) (v22 : Int) (s : Int) : Option (Int) := loopO (fun s => octets_Put_b1 x1 v6 c7 c8 v22 s) s
noncomputable def octets_Put_b2 (x1 : List Int) (v6 : Int) (c8 : Int) (v22 : Int) (c43 : List (BitVec 8)) (c44 : Int) : Option (((List (BitVec 8)) × Int) ⊕ ((List (BitVec 8)))) :=
  lt (decide (c44 > (0 : Int))) fun v55 =>
  if v55 = true then
    lt (w64 ((7 : Int) * c44)) fun v58 =>
    ((sc v58).map fun m => shr64 v22 m).bind fun v60 =>
    lt (BitVec.ofInt 8 v60) fun v62 =>
    lt (v62 ||| 128#8) fun v64 =>
    lt (([v64] : List (BitVec 8))) fun v66 =>
    (app 1 c43 v66).bind fun v68 =>
    lt (w64 (c44 - (1 : Int))) fun v72 =>
    some (.inl (v68, v72))
  else
    some (.inr c43)
noncomputable def octets_Put_l2 (x1 : List Int) (v6 : Int) (c8 : Int) (v22 : Int) (s : (List (BitVec 8)) × Int) : Option ((List (BitVec 8))) := loopO (fun s => octets_Put_b2 x1 v6 c8 v22 s.1 s.2) s
noncomputable def octets_Put_b0 (x1 : List Int) (v6 : Int) (c7 : List (BitVec 8)) (c8 : Int) : Option (((List (BitVec 8)) × Int) ⊕ ((List (BitVec 8)))) :=
  lt (decide (c8 < v6)) fun v19 =>
  if v19 = true then
    (ix x1 c8).bind fun v22 =>
    (octets_Put_l1 x1 v6 c7 c8 v22 (0 : Int)).bind fun s31 =>
      (octets_Put_l2 x1 v6 c8 v22 (c7, s31)).bind fun s52 =>
        lt (BitVec.ofInt 8 v22) fun v75 =>
        lt (v75 &&& 127#8) fun v77 =>
        lt (([v77] : List (BitVec 8))) fun v79 =>
        (app 1 s52 v79).bind fun v81 =>
        lt (w64 (c8 + (1 : Int))) fun v85 =>
        some (.inl (v81, v85))
  else
    some (.inr c7)
noncomputable def octets_Put_l0 (x1 : List Int) (v6 : Int) (s : (List (BitVec 8)) × Int) : Option ((List (BitVec 8))) := loopO (fun s => octets_Put_b0 x1 v6 s.1 s.2) s
noncomputable def octets_Put (x0 : List (BitVec 8)) (x1 : List Int) : Option ((List (BitVec 8))) :=
  (app 1 ([] : List (BitVec 8)) x0).bind fun v2 =>
  lt (((x1).length : Int)) fun v6 =>
  (octets_Put_l0 x1 v6 (v2, (0 : Int))).bind fun s16 =>
    some s16
end Go.Proofs.YtkmlinaofbcbaaaDoor
namespace Go.Proofs.YtkmlinaofbcbaaaDoor
open Go Go.Va
set_option linter.unusedVariables false
set_option linter.unusedSimpArgs false
set_option maxRecDepth 20000
noncomputable def octets_Bytes (x0 : List (BitVec 8)) (x1 : List (BitVec 8)) : Option ((List (BitVec 8))) :=
  lt (((x1).length : Int)) fun v2 =>
  lt (([v2] : List Int)) fun v4 =>
  (octets_Put x0 v4).bind fun v6 =>
  (app 1 v6 x1).bind fun v9 =>
  some v9
end Go.Proofs.YtkmlinaofbcbaaaDoor
namespace Go.Proofs.YtkmlinaofbcbaaaDoor
open Go Go.Va
set_option linter.unusedVariables false
set_option linter.unusedSimpArgs false
set_option maxRecDepth 20000
noncomputable def item_Put (x0 : List (BitVec 8)) (x1 : api_Entry) : Option ((List (BitVec 8))) :=
  (toBytes x1.Key).bind fun v2 =>
  (octets_Bytes x0 v2).bind fun v4 =>
  lt (([x1.Version, x1.AsOf, x1.Ends] : List Int)) fun v6 =>
  (octets_Put v4 v6).bind fun v8 =>
  (octets_Bytes v8 x1.Value).bind fun v10 =>
  some v10
end Go.Proofs.YtkmlinaofbcbaaaDoor
namespace Go.Proofs.YtkmlinaofbcbaaaDoor
open Go Go.Va
set_option linter.unusedVariables false
set_option linter.unusedSimpArgs false
set_option maxRecDepth 20000
noncomputable def item_All_b0 (x0 : List api_Entry) (v2 : Int) (c3 : List (BitVec 8)) (c4 : Int) : Option (((List (BitVec 8)) × Int) ⊕ ((List (BitVec 8)))) :=
  lt (decide (c4 < v2)) fun v16 =>
  if v16 = true then
    (ix x0 c4).bind fun v19 =>
    (item_Put c3 (v19 : api_Entry)).bind fun v24 =>
    lt (w64 (c4 + (1 : Int))) fun v27 =>
    some (.inl (v24, v27))
  else
    some (.inr c3)
noncomputable def item_All_l0 (x0 : List api_Entry) (v2 : Int) (s : (List (BitVec 8)) × Int) : Option ((List (BitVec 8))) := loopO (fun s => item_All_b0 x0 v2 s.1 s.2) s
noncomputable def item_All (x0 : List api_Entry) : Option ((List (BitVec 8))) :=
  lt (((x0).length : Int)) fun v2 =>
  (item_All_l0 x0 v2 ([], (0 : Int))).bind fun s13 =>
    some s13
end Go.Proofs.YtkmlinaofbcbaaaDoor
namespace Go.Proofs.YtkmlinaofbcbaaaDoor
open Go Go.Va
set_option linter.unusedVariables false
set_option linter.unusedSimpArgs false
set_option maxRecDepth 20000
noncomputable def item_Copy (x0 : api_Entry) : Option (api_Entry) :=
  (app 1 ([] : List (BitVec 8)) x0.Value).bind fun v6 =>
  lt (({ x0 with Value := v6 } : api_Entry)) fun c10 =>
  some (c10 : api_Entry)
end Go.Proofs.YtkmlinaofbcbaaaDoor
namespace Go.Proofs.YtkmlinaofbcbaaaDoor
open Go Go.Va
set_option linter.unusedVariables false
set_option linter.unusedSimpArgs false
set_option maxRecDepth 20000
noncomputable def slices_Clone_api_Entry_api_Entry (x0 : List api_Entry) : Option ((List api_Entry)) :=
  (app 64 ([] : List api_Entry) x0).bind fun v6 =>
  some v6
end Go.Proofs.YtkmlinaofbcbaaaDoor
namespace Go.Proofs.YtkmlinaofbcbaaaDoor
open Go Go.Va
set_option linter.unusedVariables false
set_option linter.unusedSimpArgs false
set_option maxRecDepth 20000
noncomputable def slices_Clone_api_Entry_api_EntryV (x0 : List api_Entry) : Option ((List api_Entry)) :=
  (app 64 ([] : List api_Entry) x0).bind fun v8 =>
  some v8
end Go.Proofs.YtkmlinaofbcbaaaDoor
namespace Go.Proofs.YtkmlinaofbcbaaaDoor
open Go Go.Va
set_option linter.unusedVariables false
set_option linter.unusedSimpArgs false
set_option maxRecDepth 20000
noncomputable def slices_Delete_api_Entry_api_Entry (x0 : List api_Entry) (x1 x2 : Int) : Option (List api_Entry) := delO x0 x1 x2
end Go.Proofs.YtkmlinaofbcbaaaDoor
namespace Go.Proofs.YtkmlinaofbcbaaaDoor
open Go Go.Va
set_option linter.unusedVariables false
set_option linter.unusedSimpArgs false
set_option maxRecDepth 20000
noncomputable def bucket_Remove (x0 : List api_Entry) (x1 : List (BitVec 8)) : Option ((List api_Entry) × Bool) :=
  (slices_Clone_api_Entry_api_EntryV x0).bind fun v2 =>
  (bucket_Find v2 x1).bind fun v7 =>
  lt (decide (v7 < (0 : Int))) fun v9 =>
  if v9 = true then
    some (v2, false)
  else
    lt (w64 (v7 + (1 : Int))) fun v13 =>
    (slices_Delete_api_Entry_api_Entry v2 v7 v13).bind fun v15 =>
    some (v15, true)
end Go.Proofs.YtkmlinaofbcbaaaDoor
namespace Go.Proofs.YtkmlinaofbcbaaaDoor
open Go Go.Va
set_option linter.unusedVariables false
set_option linter.unusedSimpArgs false
set_option maxRecDepth 20000
noncomputable def octets_Len_F (rec : Int → Option (Int)) (x0 : Int) : Option (Int) :=
  lt (decide (x0 ≥ (34359738368 : Int))) fun v2 =>
  if v2 = true then
    lt (shr64 x0 35) fun v5 =>
    (rec v5).bind fun v7 =>
    lt (w64 ((5 : Int) + v7)) fun v9 =>
    some v9
  else
    lt (decide (x0 ≥ (268435456 : Int))) fun v11 =>
    if v11 = true then
      lt (w64 ((1 : Int) + (1 : Int))) fun v14 =>
      lt (w64 (v14 + (1 : Int))) fun v16 =>
      lt (w64 (v16 + (1 : Int))) fun v18 =>
      lt (w64 (v18 + (1 : Int))) fun v20 =>
      some v20
    else
      lt (decide (x0 ≥ (2097152 : Int))) fun v22 =>
      if v22 = true then
        lt (w64 ((1 : Int) + (1 : Int))) fun v25 =>
        lt (w64 (v25 + (1 : Int))) fun v27 =>
        lt (w64 (v27 + (1 : Int))) fun v29 =>
        some v29
      else
        lt (decide (x0 ≥ (16384 : Int))) fun v31 =>
        if v31 = true then
          lt (w64 ((1 : Int) + (1 : Int))) fun v34 =>
          lt (w64 (v34 + (1 : Int))) fun v36 =>
          some v36
        else
          lt (decide (x0 ≥ (128 : Int))) fun v38 =>
          if v38 = true then
            lt (w64 ((1 : Int) + (1 : Int))) fun v41 =>
            some v41
          else
            some (1 : Int)
noncomputable def octets_Len_n : Nat → Int → Option (Int)
  | 0 => fun _ => none
  | k + 1 => octets_Len_F (octets_Len_n k)
noncomputable def octets_Len (x0 : Int) : Option (Int) := octets_Len_n 1000000 x0
end Go.Proofs.YtkmlinaofbcbaaaDoor
namespace Go.Proofs.YtkmlinaofbcbaaaDoor
open Go Go.Va
set_option linter.unusedVariables false
set_option linter.unusedSimpArgs false
set_option maxRecDepth 20000
noncomputable def item_Size (x0 : api_Entry) : Option (Int) :=
  lt (((x0.Key).length : Int)) fun v2 =>
  (octets_Len v2).bind fun v4 =>
  lt (((x0.Key).length : Int)) fun v6 =>
  lt (w64 (v4 + v6)) fun v8 =>
  lt (((x0.Value).length : Int)) fun v10 =>
  (octets_Len v10).bind fun v12 =>
  lt (w64 (v8 + v12)) fun v14 =>
  lt (((x0.Value).length : Int)) fun v16 =>
  lt (w64 (v14 + v16)) fun v18 =>
  (octets_Len x0.Version).bind fun v20 =>
  lt (w64 (v18 + v20)) fun v22 =>
  (octets_Len x0.AsOf).bind fun v24 =>
  lt (w64 (v22 + v24)) fun v26 =>
  (octets_Len x0.Ends).bind fun v28 =>
  lt (w64 (v26 + v28)) fun v30 =>
  some v30
end Go.Proofs.YtkmlinaofbcbaaaDoor
namespace Go.Proofs.YtkmlinaofbcbaaaDoor
open Go Go.Va
set_option linter.unusedVariables false
set_option linter.unusedSimpArgs false
set_option maxRecDepth 20000
noncomputable def bucket_Size_b0 (x0 : List api_Entry) (v2 : Int) (c3 : Int) (c4 : Int) : Option ((Int × Int) ⊕ (Int)) :=
  lt (decide (c4 < v2)) fun v15 =>
  if v15 = true then
    (ix x0 c4).bind fun v18 =>
    (item_Size (v18 : api_Entry)).bind fun v23 =>
    lt (w64 (c3 + v23)) fun v25 =>
    lt (w64 (c4 + (1 : Int))) fun v27 =>
    some (.inl (v25, v27))
  else
    some (.inr c3)
noncomputable def bucket_Size_l0 (x0 : List api_Entry) (v2 : Int) (s : Int × Int) : Option (Int) := loopO (fun s => bucket_Size_b0 x0 v2 s.1 s.2) s
noncomputable def bucket_Size (x0 : List api_Entry) : Option (Int) :=
  lt (((x0).length : Int)) fun v2 =>
  (bucket_Size_l0 x0 v2 ((0 : Int), (0 : Int))).bind fun s12 =>
    some s12
end Go.Proofs.YtkmlinaofbcbaaaDoor
namespace Go.Proofs.YtkmlinaofbcbaaaDoor
open Go Go.Va
set_option linter.unusedVariables false
set_option linter.unusedSimpArgs false
set_option maxRecDepth 20000
noncomputable def bucket_Insert_b0 (v28 : List api_Entry) (c31 : Int) : Option ((Int) ⊕ (Int)) :=
  (cutFrom v28 c31).bind fun v42 =>
  (bucket_Size v42).bind fun v44 =>
  lt (decide (v44 > (233 : Int))) fun v46 =>
  if v46 = true then
    lt (w64 (c31 + (1 : Int))) fun v49 =>
    some (.inl v49)
  else
    some (.inr c31)
noncomputable def bucket_Insert_l0 (v28 : List api_Entry) (s : Int) : Option (Int) := loopO (fun s => bucket_Insert_b0 v28 s) s
noncomputable def bucket_Insert (x0 : List api_Entry) (x1 : api_Entry) : Option ((List api_Entry) × (List api_Entry) × Err) :=
  (item_Check x1).bind fun v2 =>
  lt (!Err.isNil v2) fun v4 =>
  if v4 = true then
    lt (((x0).length : Int)) fun v7 =>
    (trouble_Wrap ([105#8, 110#8, 115#8, 101#8, 114#8, 116#8] : List (BitVec 8)) v7 v2).bind fun v9 =>
    some ([], [], v9)
  else
    lt (([x1] : List api_Entry)) fun v11 =>
    (bucket_Size v11).bind fun v13 =>
    lt (decide (v13 > (233 : Int))) fun v15 =>
    if v15 = true then
      (trouble_New ([105#8, 110#8, 115#8, 101#8, 114#8, 116#8] : List (BitVec 8)) v13 (3 : Int)).bind fun v18 =>
      some ([], [], v18)
    else
      (bucket_Remove x0 x1.Key).bind fun v20 =>
      (item_Copy x1).bind fun v24 =>
      lt (([v24] : List api_Entry)) fun v26 =>
      (app 64 v20.1 v26).bind fun v28 =>
      (bucket_Insert_l0 v28 (0 : Int)).bind fun s39 =>
        (cutFrom v28 s39).bind fun v52 =>
        (slices_Clone_api_Entry_api_Entry v52).bind fun v54 =>
        (cutTo v28 s39).bind fun v56 =>
        (slices_Clone_api_Entry_api_Entry v56).bind fun v58 =>
        some (v54, v58, Err.nil)
end Go.Proofs.YtkmlinaofbcbaaaDoor
namespace Go.Proofs.YtkmlinaofbcbaaaDoor
open Go Go.Va
set_option linter.unusedVariables false
set_option linter.unusedSimpArgs false
set_option maxRecDepth 20000
noncomputable def bloom_Mix (x0 : BitVec 64) : Option ((BitVec 64)) :=
  lt (x0 >>> 33) fun v2 =>
  lt (x0 ^^^ v2) fun v4 =>
  lt (v4 * 18397679294719823053#64) fun v6 =>
  lt (v6 >>> 33) fun v8 =>
  lt (v6 ^^^ v8) fun v10 =>
  lt (v10 * 14181476777654086739#64) fun v12 =>
  lt (v12 >>> 33) fun v14 =>
  lt (v12 ^^^ v14) fun v16 =>
  some v16
end Go.Proofs.YtkmlinaofbcbaaaDoor
namespace Go.Proofs.YtkmlinaofbcbaaaDoor
open Go Go.Va
set_option linter.unusedVariables false
set_option linter.unusedSimpArgs false
set_option maxRecDepth 20000
noncomputable def bloom_Hash_b0 (x0 : List (BitVec 8)) (v2 : Int) (c3 : BitVec 64) (c4 : Int) : Option (((BitVec 64) × Int) ⊕ ((BitVec 64))) :=
  lt (decide (c4 < v2)) fun v15 =>
  if v15 = true then
    (ix x0 c4).bind fun v18 =>
    lt (BitVec.setWidth 64 v18) fun v20 =>
    lt (c3 ^^^ v20) fun v22 =>
    lt (v22 * 1099511628211#64) fun v24 =>
    lt (w64 (c4 + (1 : Int))) fun v26 =>
    some (.inl (v24, v26))
  else
    some (.inr c3)
noncomputable def bloom_Hash_l0 (x0 : List (BitVec 8)) (v2 : Int) (s : (BitVec 64) × Int) : Option ((BitVec 64)) := loopO (fun s => bloom_Hash_b0 x0 v2 s.1 s.2) s
noncomputable def bloom_Hash (x0 : List (BitVec 8)) : Option ((BitVec 64)) :=
  lt (((x0).length : Int)) fun v2 =>
  (bloom_Hash_l0 x0 v2 (14695981039346656037#64, (0 : Int))).bind fun s12 =>
    (bloom_Mix s12).bind fun v29 =>
    some v29
end Go.Proofs.YtkmlinaofbcbaaaDoor
namespace Go.Proofs.YtkmlinaofbcbaaaDoor
open Go Go.Va
set_option linter.unusedVariables false
set_option linter.unusedSimpArgs false
set_option maxRecDepth 20000
noncomputable def bloom_bits (x0 : BitVec 64) : Option ((List Int)) :=
  lt (x0 &&& 127#64) fun v4 =>
  lt (BitVec.toInt v4) fun v6 =>
  lt (x0 >>> 21) fun v8 =>
  lt (v8 &&& 127#64) fun v10 =>
  lt (BitVec.toInt v10) fun v12 =>
  lt (x0 >>> 42) fun v14 =>
  lt (v14 &&& 127#64) fun v16 =>
  lt (BitVec.toInt v16) fun v18 =>
  lt (([v6, v12, v18] : List Int)) fun v20 =>
  (stW 3 (List.replicate 3 (0 : Int)) v20).bind fun c22 =>
  (whole 3 c22).bind fun w24 =>
  some w24
end Go.Proofs.YtkmlinaofbcbaaaDoor
namespace Go.Proofs.YtkmlinaofbcbaaaDoor
open Go Go.Va
set_option linter.unusedVariables false
set_option linter.unusedSimpArgs false
set_option maxRecDepth 20000
noncomputable def bloom_Filter_Add_b0 (v6 : List Int) (c7 : Int) (c8 : List (BitVec 64)) : Option ((Int × (List (BitVec 64))) ⊕ ((List (BitVec 64)))) :=
  lt (decide (c7 < (3 : Int))) fun v19 =>
  if v19 = true then
    (ixA 3 v6 c7).bind fun v22 =>
    lt (shr64 v22 6) fun v24 =>
    (chk 2 v24).bind fun v26 =>
    (ixA 2 c8 v24).bind fun v28 =>
    lt (and64 v22 (63 : Int)) fun v30 =>
    ((sc v30).map fun m => 1#64 <<< m).bind fun v32 =>
    lt (v28 ||| v32) fun v34 =>
    (chk 2 v24).bind fun v36 =>
    (updA 2 c8 v24 (fun _ => v34)).bind fun c38 =>
    lt (w64 (c7 + (1 : Int))) fun v41 =>
    some (.inl (v41, c38))
  else
    some (.inr c8)
noncomputable def bloom_Filter_Add_l0 (v6 : List Int) (s : Int × (List (BitVec 64))) : Option ((List (BitVec 64))) := loopO (fun s => bloom_Filter_Add_b0 v6 s.1 s.2) s
noncomputable def bloom_Filter_Add (x0 : List (BitVec 64)) (x1 : BitVec 64) : Option ((List (BitVec 64))) :=
  (bloom_bits x1).bind fun v6 =>
  (bloom_Filter_Add_l0 v6 ((0 : Int), x0)).bind fun s16 =>
    (whole 2 s16).bind fun v44 =>
    (stW 2 (List.replicate 2 0#64) v44).bind fun c46 =>
    (whole 2 c46).bind fun w48 =>
    some w48
end Go.Proofs.YtkmlinaofbcbaaaDoor
namespace Go.Proofs.YtkmlinaofbcbaaaDoor
open Go Go.Va
set_option linter.unusedVariables false
set_option linter.unusedSimpArgs false
set_option maxRecDepth 20000
noncomputable def bloom_Of_b0 (x0 : List (List (BitVec 8))) (v6 : Int) (c7 : Int) (c8 : List (BitVec 64)) : Option ((Int × (List (BitVec 64))) ⊕ ((List (BitVec 64)))) :=
  lt (decide (c7 < v6)) fun v19 =>
  if v19 = true then
    (ix x0 c7).bind fun v22 =>
    (whole 2 c8).bind fun v24 =>
    (bloom_Hash v22).bind fun v26 =>
    (bloom_Filter_Add v24 v26).bind fun v28 =>
    (stW 2 c8 v28).bind fun c30 =>
    lt (w64 (c7 + (1 : Int))) fun v33 =>
    some (.inl (v33, c30))
  else
    some (.inr c8)
noncomputable def bloom_Of_l0 (x0 : List (List (BitVec 8))) (v6 : Int) (s : Int × (List (BitVec 64))) : Option ((List (BitVec 64))) := loopO (fun s => bloom_Of_b0 x0 v6 s.1 s.2) s
noncomputable def bloom_Of (x0 : List (List (BitVec 8))) : Option ((List (BitVec 64))) :=
  lt (((x0).length : Int)) fun v6 =>
  (bloom_Of_l0 x0 v6 ((0 : Int), (List.replicate 2 0#64))).bind fun s16 =>
    (whole 2 s16).bind fun v36 =>
    (stW 2 (List.replicate 2 0#64) v36).bind fun c38 =>
    (whole 2 c38).bind fun w40 =>
    some w40
end Go.Proofs.YtkmlinaofbcbaaaDoor
namespace Go.Proofs.YtkmlinaofbcbaaaDoor
open Go Go.Va
set_option linter.unusedVariables false
set_option linter.unusedSimpArgs false
set_option maxRecDepth 20000
noncomputable def bucket_Filter_b0 (x0 : List api_Entry) (v4 : Int) (c5 : List (List (BitVec 8))) (c6 : Int) : Option (((List (List (BitVec 8))) × Int) ⊕ ((List (List (BitVec 8))))) :=
  lt (decide (c6 < v4)) fun v18 =>
  if v18 = true then
    (ix x0 c6).bind fun v21 =>
    lt (([(v21 : api_Entry).Key] : List (List (BitVec 8)))) fun v26 =>
    (app 16 c5 v26).bind fun v28 =>
    lt (w64 (c6 + (1 : Int))) fun v32 =>
    some (.inl (v28, v32))
  else
    some (.inr c5)
noncomputable def bucket_Filter_l0 (x0 : List api_Entry) (v4 : Int) (s : (List (List (BitVec 8))) × Int) : Option ((List (List (BitVec 8)))) := loopO (fun s => bucket_Filter_b0 x0 v4 s.1 s.2) s
noncomputable def bucket_Filter (x0 : List api_Entry) : Option ((List (BitVec 64))) :=
  lt (((x0).length : Int)) fun v4 =>
  (bucket_Filter_l0 x0 v4 ([], (0 : Int))).bind fun s15 =>
    (bloom_Of s15).bind fun v35 =>
    (stW 2 (List.replicate 2 0#64) v35).bind fun c37 =>
    (whole 2 c37).bind fun w39 =>
    some w39
end Go.Proofs.YtkmlinaofbcbaaaDoor
namespace Go.Proofs.YtkmlinaofbcbaaaDoor
open Go Go.Va
set_option linter.unusedVariables false
set_option linter.unusedSimpArgs false
set_option maxRecDepth 20000
noncomputable def bloom_Filter_May_b0 (x0 : List (BitVec 64)) (v2 : List Int) (c3 : Int) : Option ((Int) ⊕ (Unit ⊕ (Bool))) :=
  lt (decide (c3 < (3 : Int))) fun v14 =>
  if v14 = true then
    (ixA 3 v2 c3).bind fun v17 =>
    lt (shr64 v17 6) fun v19 =>
    (ixA 2 x0 v19).bind fun v21 =>
    lt (and64 v17 (63 : Int)) fun v23 =>
    ((sc v23).map fun m => v21 >>> m).bind fun v25 =>
    lt (v25 &&& 1#64) fun v27 =>
    lt (v27 == 0#64) fun v29 =>
    if v29 = true then
      some (.inr (.inr false))
    else
      lt (w64 (c3 + (1 : Int))) fun v33 =>
      some (.inl v33)
  else
    some (.inr (.inl ()))
noncomputable def bloom_Filter_May_l0 (x0 : List (BitVec 64)) (v2 : List Int) (s : Int) : Option (Unit ⊕ (Bool)) := loopO (fun s => bloom_Filter_May_b0 x0 v2 s) s
noncomputable def bloom_Filter_May (x0 : List (BitVec 64)) (x1 : BitVec 64) : Option (Bool) :=
  (bloom_bits x1).bind fun v2 =>
  (bloom_Filter_May_l0 x0 v2 (0 : Int)).bind fun o4 =>
    Sum.elim (fun s11 : Unit =>
      some true
      ) (fun y => some y) o4
end Go.Proofs.YtkmlinaofbcbaaaDoor
namespace Go.Proofs.YtkmlinaofbcbaaaDoor
open Go Go.Va
set_option linter.unusedVariables false
set_option linter.unusedSimpArgs false
set_option maxRecDepth 20000
noncomputable def butterylaw12_works : Option (Bool) :=
  (mkS 1 (100 : Int) 0#8).bind fun v2 =>
  lt ((⟨([97#8] : List (BitVec 8)), (1 : Int), (1 : Int), (0 : Int), v2⟩ : api_Entry)) fun v6 =>
  (mkS 1 (100 : Int) 0#8).bind fun v11 =>
  lt ((⟨([98#8] : List (BitVec 8)), (1 : Int), (1 : Int), (0 : Int), v11⟩ : api_Entry)) fun v15 =>
  (mkS 1 (100 : Int) 0#8).bind fun v20 =>
  lt ((⟨([99#8] : List (BitVec 8)), (1 : Int), (1 : Int), (0 : Int), v20⟩ : api_Entry)) fun v24 =>
  lt (([(v6 : api_Entry), (v15 : api_Entry)] : List api_Entry)) fun v29 =>
  (bucket_Insert v29 (v24 : api_Entry)).bind fun v31 =>
  (mkS 1 (300 : Int) 0#8).bind fun v33 =>
  lt ((⟨([100#8] : List (BitVec 8)), (1 : Int), (1 : Int), (0 : Int), v33⟩ : api_Entry)) fun v37 =>
  (bucket_Insert [] v37).bind fun v39 =>
  lt (([(v6 : api_Entry), (v6 : api_Entry)] : List api_Entry)) fun v41 =>
  (item_All v41).bind fun v43 =>
  (bucket_Read v43).bind fun v45 =>
  (
    lt (((v31.1).length : Int)) fun v51 =>
    lt (v51 != (2 : Int)) fun v53 =>
    if v53 = true then
      some true
    else
      lt (((v31.2.1).length : Int)) fun v56 =>
      lt (v56 != (1 : Int)) fun v58 =>
      some v58
   : Option (Bool)).bind fun s46 =>
    if s46 = true then
      some false
    else
      (bucket_Remove v31.1 ([99#8] : List (BitVec 8))).bind fun v62 =>
      lt (Err.isNil v31.2.2) fun v64 =>
      if v64 = true then
        (ix v31.2.1 (0 : Int)).bind fun v67 =>
        lt (v67.Key == ([97#8] : List (BitVec 8))) fun v69 =>
        if v69 = true then
          (ix v31.1 (1 : Int)).bind fun v72 =>
          lt (v72.Key == ([99#8] : List (BitVec 8))) fun v74 =>
          if v74 = true then
            (trouble_Of v39.2.2).bind fun v77 =>
            lt (v77 == (3 : Int)) fun v79 =>
            if v79 = true then
              (trouble_Of v45.2).bind fun v82 =>
              lt (v82 == (13 : Int)) fun v84 =>
              if v84 = true then
                lt (((v62.1).length : Int)) fun v87 =>
                lt (v87 == (1 : Int)) fun v89 =>
                if v89 = true then
                  if v62.2 = true then
                    (bucket_Find v31.1 ([99#8] : List (BitVec 8))).bind fun v93 =>
                    lt (v93 == (1 : Int)) fun v95 =>
                    if v95 = true then
                      lt (([(v6 : api_Entry)] : List api_Entry)) fun v98 =>
                      (bucket_Size v98).bind fun v100 =>
                      lt (v100 == (106 : Int)) fun v102 =>
                      if v102 = true then
                        (bucket_Filter v31.1).bind fun v105 =>
                        (bloom_Hash ([98#8] : List (BitVec 8))).bind fun v107 =>
                        (bloom_Filter_May v105 v107).bind fun v109 =>
                        some v109
                      else
                        some false
                    else
                      some false
                  else
                    some false
                else
                  some false
              else
                some false
            else
              some false
          else
            some false
        else
          some false
      else
        some false
end Go.Proofs.YtkmlinaofbcbaaaDoor
namespace Go.Proofs.YtkmlinaofbcbaaaDoor
open Go Go.Va
set_option linter.unusedVariables false
set_option linter.unusedSimpArgs false
set_option maxRecDepth 20000
noncomputable def butteryref02_Key (x0 : List (BitVec 8)) : Option (Int) :=
  lt (x0 == ([] : List (BitVec 8))) fun v2 =>
  if v2 = true then
    some (1 : Int)
  else
    lt (((x0).length : Int)) fun v5 =>
    lt (decide (v5 > (40 : Int))) fun v7 =>
    if v7 = true then
      some (3 : Int)
    else
      some (0 : Int)
end Go.Proofs.YtkmlinaofbcbaaaDoor
namespace Go.Proofs.YtkmlinaofbcbaaaDoor
open Go Go.Va
set_option linter.unusedVariables false
set_option linter.unusedSimpArgs false
set_option maxRecDepth 20000
noncomputable def butteryref06_Check (x0 : api_Entry) : Option (Int) :=
  (butteryref02_Key x0.Key).bind fun v2 =>
  lt (v2 != (0 : Int)) fun v4 =>
  if v4 = true then
    some v2
  else
    (
      lt (decide (x0.Version < (1 : Int))) fun v11 =>
      if v11 = true then
        some true
      else
        lt (decide (x0.Version > (1099511627776 : Int))) fun v14 =>
        if v14 = true then
          some true
        else
          lt (decide (x0.AsOf < x0.Version)) fun v17 =>
          if v17 = true then
            some true
          else
            lt (decide (x0.AsOf > (1099511627776 : Int))) fun v20 =>
            if v20 = true then
              some true
            else
              lt (decide (x0.Ends < (0 : Int))) fun v23 =>
              if v23 = true then
                some true
              else
                lt (decide (x0.Ends > (1099511627776 : Int))) fun v26 =>
                some v26
     : Option (Bool)).bind fun s6 =>
      if s6 = true then
        some (2 : Int)
      else
        lt (((x0.Value).length : Int)) fun v30 =>
        lt (decide (v30 > (4096 : Int))) fun v32 =>
        if v32 = true then
          some (3 : Int)
        else
          some (0 : Int)
end Go.Proofs.YtkmlinaofbcbaaaDoor
namespace Go.Proofs.YtkmlinaofbcbaaaDoor
open Go Go.Va
set_option linter.unusedVariables false
set_option linter.unusedSimpArgs false
set_option maxRecDepth 20000
noncomputable def butteryref06_Find_b0 (x0 : List api_Entry) (x1 : List (BitVec 8)) (c1 : Int) : Option ((Int) ⊕ (Unit ⊕ (Int))) :=
  lt (((x0).length : Int)) fun v12 =>
  lt (decide (c1 < v12)) fun v14 =>
  if v14 = true then
    (ix x0 c1).bind fun v17 =>
    lt (v17.Key == x1) fun v19 =>
    if v19 = true then
      some (.inr (.inr c1))
    else
      lt (w64 (c1 + (1 : Int))) fun v23 =>
      some (.inl v23)
  else
    some (.inr (.inl ()))
noncomputable def butteryref06_Find_l0 (x0 : List api_Entry) (x1 : List (BitVec 8)) (s : Int) : Option (Unit ⊕ (Int)) := loopO (fun s => butteryref06_Find_b0 x0 x1 s) s
noncomputable def butteryref06_Find (x0 : List api_Entry) (x1 : List (BitVec 8)) : Option (Int) :=
  (butteryref06_Find_l0 x0 x1 (0 : Int)).bind fun o2 =>
    Sum.elim (fun s9 : Unit =>
      some (-1 : Int)
      ) (fun y => some y) o2
end Go.Proofs.YtkmlinaofbcbaaaDoor
namespace Go.Proofs.YtkmlinaofbcbaaaDoor
open Go Go.Va
set_option linter.unusedVariables false
set_option linter.unusedSimpArgs false
set_option maxRecDepth 20000
noncomputable def butterylaw12_right_b0 (x0 : List api_Entry) (c1 : Int) : Option ((Int) ⊕ (Unit ⊕ (Bool))) :=
  lt (((x0).length : Int)) fun v12 =>
  lt (decide (c1 < v12)) fun v14 =>
  if v14 = true then
    (
      (ix x0 c1).bind fun v21 =>
      (butteryref06_Check v21).bind fun v23 =>
      lt (v23 != (0 : Int)) fun v25 =>
      if v25 = true then
        some true
      else
        (ix x0 c1).bind fun v28 =>
        (butteryref06_Find x0 v28.Key).bind fun v30 =>
        lt (v30 != c1) fun v32 =>
        some v32
     : Option (Bool)).bind fun s16 =>
      if s16 = true then
        some (.inr (.inr false))
      else
        lt (w64 (c1 + (1 : Int))) fun v37 =>
        some (.inl v37)
  else
    some (.inr (.inl ()))
noncomputable def butterylaw12_right_l0 (x0 : List api_Entry) (s : Int) : Option (Unit ⊕ (Bool)) := loopO (fun s => butterylaw12_right_b0 x0 s) s
noncomputable def butterylaw12_right (x0 : List api_Entry) : Option (Bool) :=
  (butterylaw12_right_l0 x0 (0 : Int)).bind fun o2 =>
    Sum.elim (fun s9 : Unit =>
      some true
      ) (fun y => some y) o2
end Go.Proofs.YtkmlinaofbcbaaaDoor
namespace Go.Proofs.YtkmlinaofbcbaaaDoor
open Go Go.Va
set_option linter.unusedVariables false
set_option linter.unusedSimpArgs false
set_option maxRecDepth 20000
noncomputable def butteryref12_But_b0 (x0 : List api_Entry) (x1 : List (BitVec 8)) (c1 : List api_Entry) (c2 : Int) : Option (((List api_Entry) × Int) ⊕ ((List api_Entry))) :=
  lt (((x0).length : Int)) fun v14 =>
  lt (decide (c2 < v14)) fun v16 =>
  if v16 = true then
    (ix x0 c2).bind fun v19 =>
    lt (v19.Key != x1) fun v21 =>
    if v21 = true then
      (ix x0 c2).bind fun v24 =>
      lt (([v24] : List api_Entry)) fun v26 =>
      (app 64 c1 v26).bind fun v28 =>
      lt (w64 (c2 + (1 : Int))) fun v32 =>
      some (.inl (v28, v32))
    else
      lt (w64 (c2 + (1 : Int))) fun v34 =>
      some (.inl (c1, v34))
  else
    some (.inr c1)
noncomputable def butteryref12_But_l0 (x0 : List api_Entry) (x1 : List (BitVec 8)) (s : (List api_Entry) × Int) : Option ((List api_Entry)) := loopO (fun s => butteryref12_But_b0 x0 x1 s.1 s.2) s
noncomputable def butteryref12_But (x0 : List api_Entry) (x1 : List (BitVec 8)) : Option ((List api_Entry)) :=
  (butteryref12_But_l0 x0 x1 ([], (0 : Int))).bind fun s11 =>
    some s11
end Go.Proofs.YtkmlinaofbcbaaaDoor
namespace Go.Proofs.YtkmlinaofbcbaaaDoor
open Go Go.Va
set_option linter.unusedVariables false
set_option linter.unusedSimpArgs false
set_option maxRecDepth 20000
noncomputable def butterylaw12_BucketRoom (x0 : List api_Entry) (x1 : api_Entry) : Option (Bool) :=
  (
    (butterylaw06_Light x0).bind fun v6 =>
    lt (decide (v6 > (0 : Int))) fun v8 =>
    if v8 = true then
      some true
    else
      lt (([x1] : List api_Entry)) fun v11 =>
      (butterylaw06_Light v11).bind fun v13 =>
      lt (decide (v13 > (0 : Int))) fun v15 =>
      if v15 = true then
        some true
      else
        (butterylaw12_right x0).bind fun v18 =>
        lt (!v18) fun v20 =>
        some v20
   : Option (Bool)).bind fun s1 =>
    if s1 = true then
      (butterylaw12_works).bind fun v24 =>
      some v24
    else
      (bucket_Insert x0 x1).bind fun v26 =>
      lt (!Err.isNil v26.2.2) fun v28 =>
      if v28 = true then
        lt (((v26.1).length : Int)) fun v31 =>
        lt (((v26.2.1).length : Int)) fun v33 =>
        lt (w64 (v31 + v33)) fun v35 =>
        lt (v35 == (0 : Int)) fun v37 =>
        if v37 = true then
          (butterylaw12_works).bind fun v40 =>
          some v40
        else
          some false
      else
        (
          lt (((v26.1).length : Int)) fun v46 =>
          lt (v46 == (0 : Int)) fun v48 =>
          if v48 = true then
            some true
          else
            lt (((v26.1).length : Int)) fun v51 =>
            lt (w64 (v51 - (1 : Int))) fun v53 =>
            (ix v26.1 v53).bind fun v55 =>
            (butteryref06_Same v55 x1).bind fun v57 =>
            lt (!v57) fun v59 =>
            if v59 = true then
              some true
            else
              (bucket_Size v26.1).bind fun v62 =>
              lt (decide (v62 > (233 : Int))) fun v64 =>
              if v64 = true then
                some true
              else
                (butterylaw12_right v26.1).bind fun v67 =>
                lt (!v67) fun v69 =>
                some v69
         : Option (Bool)).bind fun s41 =>
          if s41 = true then
            some false
          else
            (app 64 ([] : List api_Entry) v26.2.1).bind fun v73 =>
            lt (((v26.1).length : Int)) fun v77 =>
            lt (w64 (v77 - (1 : Int))) fun v79 =>
            (cutTo v26.1 v79).bind fun v81 =>
            (app 64 v73 v81).bind fun v83 =>
            (butteryref12_But x0 x1.Key).bind fun v87 =>
            (butteryref06_SameAll v83 v87).bind fun v89 =>
            if v89 = true then
              lt (((v26.2.1).length : Int)) fun v92 =>
              lt (v92 == (0 : Int)) fun v94 =>
              if v94 = true then
                (butterylaw12_works).bind fun v97 =>
                some v97
              else
                (bucket_Size v26.1).bind fun v99 =>
                lt (((v26.2.1).length : Int)) fun v101 =>
                lt (w64 (v101 - (1 : Int))) fun v103 =>
                (ix v26.2.1 v103).bind fun v105 =>
                lt (([v105] : List api_Entry)) fun v107 =>
                (bucket_Size v107).bind fun v109 =>
                lt (w64 (v99 + v109)) fun v111 =>
                lt (decide (v111 > (233 : Int))) fun v113 =>
                if v113 = true then
                  (butterylaw12_works).bind fun v116 =>
                  some v116
                else
                  some false
            else
              some false
end Go.Proofs.YtkmlinaofbcbaaaDoor
namespace Go.Proofs.YtkmlinaofbcbaaaDoor
open Go.RowKit Go.Extern.Stop Go.Stop Go.Extern
/-- errors.As(nil, target). -/
theorem as_nil (t : Value) (w : World) :
    Calls Tryd.prog 70 #[.nilIface, t] w fun e w' => e = .returned (.bool false) ∧ w' = w := by
  go_enter Tryd.func70, Tryd.ntmps70
  go_wp2
  go_ret
  exact ⟨rfl, rfl⟩

theorem Tryd.valueOf27 (t : Addr) (w : World) : (ReflectliteValue.unpack (.iface 111 (.pointer (some t)))).run Tryd.prog w
    = .ok (.agg #[.pointer (some ⟨1, 111, none⟩), .pointer (some ⟨w.heap.size, 0, none⟩), .int .u64 150]) (w.alloc (.cells #[.pointer (some t)] 111)) := by kernel_rfl
theorem Tryd.type27 (a : Addr) (w : World) : (ReflectliteValue.methodAny (ReflectliteValue.valueError "reflectlite.Value.Type" 0) (fun t _ _ _ => ReflectliteType.toType t) #[.agg #[.pointer (some ⟨1, 111, none⟩), .pointer (some a), .int .u64 150]]).run Tryd.prog w
    = .ok (.iface 181 (.agg #[.pointer (some ⟨1, 111, none⟩)])) w := by kernel_rfl
theorem Tryd.methodKind (h : Value) (w : World) : (Go.method 322 181 (.agg #[h]) "Kind").run Tryd.prog w = .ok (151, h) w := by kernel_rfl
theorem Tryd.kind27 (w : World) : ((ReflectliteType.abiMethod fun t => (fun a : Nat => Value.int IntKind.u8 (a : Int)) <$> Rtype.kind t) #[.pointer (some ⟨1, 111, none⟩)]).run Tryd.prog w = .ok (.int .u8 22) w := by kernel_rfl
theorem Tryd.kind25 (w : World) : ((ReflectliteType.abiMethod fun t => (fun a : Nat => Value.int IntKind.u8 (a : Int)) <$> Rtype.kind t) #[.pointer (some ⟨1, 109, none⟩)]).run Tryd.prog w = .ok (.int .u8 22) w := by kernel_rfl

theorem rlm (z : Sem Value) (f : TypeId → Addr → Nat → Nat → Sem Value) (v : Value) :
    ReflectliteValue.method z f #[v] = (do match ← ReflectliteValue.parts v with | none => z | some (t, a, fl) => f t a fl (fl % 32)) := rfl
theorem Tryd.parts27 (a : Addr) (w : World) : (ReflectliteValue.parts (.agg #[.pointer (some ⟨1, 111, none⟩), .pointer (some a), .int .u64 150])).run Tryd.prog w = .ok (some (111, a, 150)) w := by kernel_rfl
/-- (Value).IsNil at the Value of a **p.E that is not nil. -/
theorem Tryd.isNil27 (a p : Addr) (W : World) (ha : W.cell? a = some (.pointer (some p))) :
    (ReflectliteValue.method (ReflectliteValue.valueError "reflectlite.Value.IsNil" 0) ReflectliteValue.isNil #[.agg #[.pointer (some ⟨1, 111, none⟩), .pointer (some a), .int .u64 150]]).run Tryd.prog W = .ok (.bool false) W := by
  rw [rlm]
  simp only [Sem.run_bind, Tryd.parts27, Result.andThen]
  simp [ReflectliteValue.isNil, loadVar, isAgg, underlying, Tryd.underlying111, ha, Result.andThen]

theorem Tryd.methodElem (h : Value) (w : World) : (Go.method 322 181 (.agg #[h]) "Elem").run Tryd.prog w = .ok (163, .agg #[h]) w := by kernel_rfl
theorem Tryd.methodImplements (h : Value) (w : World) : (Go.method 322 181 (.agg #[h]) "Implements").run Tryd.prog w = .ok (164, .agg #[h]) w := by kernel_rfl
theorem Tryd.methodAssignableTo (h : Value) (w : World) : (Go.method 322 181 (.agg #[h]) "AssignableTo").run Tryd.prog w = .ok (161, .agg #[h]) w := by kernel_rfl
theorem Tryd.elem27 (w : World) : (ReflectliteType.method ReflectliteType.elem #[.agg #[.pointer (some ⟨1, 111, none⟩)]]).run Tryd.prog w = .ok (.iface 181 (.agg #[.pointer (some ⟨1, 109, none⟩)])) w := by kernel_rfl
theorem Tryd.implements25 (w : World) : (ReflectliteType.relation "Implements" ReflectliteType.implements_ #[.agg #[.pointer (some ⟨1, 109, none⟩)], .iface 181 (.agg #[.pointer (some ⟨1, 30, none⟩)])]).run Tryd.prog w = .ok (.bool true) w := by kernel_rfl
theorem Tryd.typeOf25 (v : Value) (w : World) : (ReflectliteType.typeOf #[.iface 109 v]).run Tryd.prog w = .ok (.iface 181 (.agg #[.pointer (some ⟨1, 109, none⟩)])) w := by kernel_rfl
theorem Tryd.assignable25 (w : World) : (ReflectliteType.relation "AssignableTo" ReflectliteType.assignableTo #[.agg #[.pointer (some ⟨1, 109, none⟩)], .iface 181 (.agg #[.pointer (some ⟨1, 109, none⟩)])]).run Tryd.prog w = .ok (.bool true) w := by kernel_rfl
theorem Tryd.valueOf25 (e : Addr) (w : World) : (ReflectliteValue.unpack (.iface 109 (.pointer (some e)))).run Tryd.prog w
    = .ok (.agg #[.pointer (some ⟨1, 109, none⟩), .pointer (some ⟨w.heap.size, 0, none⟩), .int .u64 150]) (w.alloc (.cells #[.pointer (some e)] 109)) := by kernel_rfl

theorem Tryd.elemOf27 (w : World) : (Rtype.elem? 111).run Tryd.prog w = .ok (some 109) w := by kernel_rfl
theorem Tryd.mk25 (p : Addr) (w : World) : (ReflectliteValue.mk 109 p ReflectliteValue.flagAddr).run Tryd.prog w = .ok (.agg #[.pointer (some ⟨1, 109, none⟩), .pointer (some p), .int .u64 406]) w := by kernel_rfl
/-- (Value).Elem at the Value of a **p.E that is not nil: the Value of the *p.E variable that it points to, addressable. -/
theorem Tryd.elemV27 (a p : Addr) (W : World) (ha : W.cell? a = some (.pointer (some p))) :
    (ReflectliteValue.method (ReflectliteValue.valueError "reflectlite.Value.Elem" 0) ReflectliteValue.elem #[.agg #[.pointer (some ⟨1, 111, none⟩), .pointer (some a), .int .u64 150]]).run Tryd.prog W
      = .ok (.agg #[.pointer (some ⟨1, 109, none⟩), .pointer (some p), .int .u64 406]) W := by
  rw [rlm]
  simp only [Sem.run_bind, Tryd.parts27, Result.andThen]
  simp [ReflectliteValue.elem, loadVar, isAgg, underlying, Tryd.underlying111, ha, Result.andThen, Tryd.elemOf27, Tryd.mk25]
theorem rls (v x : Value) : ReflectliteValue.set #[v, x] = (do
    let (some (dst, a, fl), some (src, b, _)) := (← ReflectliteValue.parts v, ← ReflectliteValue.parts x)
      | unsupported (.noEntry "extern/(internal/reflectlite.Value).Set.zeroValue")
    if fl / ReflectliteValue.flagAddr % 2 == 0 then unsupported (.noEntry "extern/(internal/reflectlite.Value).Set.unaddressable")
    let val ← loadVar src b
    if ← Rtype.directlyAssignable dst src then storeVar dst a val
    else if ← Rtype.implements dst src then
      if (← Rtype.kind src) == 20 then
        match val with
        | .nilIface => unsupported (.noEntry "extern/reflectlite: a nil value of one interface type handed on as a value of another")
        | _ => storeVar dst a val
      else storeVar dst a (.iface src val)
    else panicString ("reflectlite.Set: value of type " ++ (← Rtype.spelt src) ++ " is not assignable to type " ++ (← Rtype.spelt dst))
    pure (.tuple #[])) := rfl
theorem Tryd.parts25a (a : Addr) (w : World) : (ReflectliteValue.parts (.agg #[.pointer (some ⟨1, 109, none⟩), .pointer (some a), .int .u64 406])).run Tryd.prog w = .ok (some (109, a, 406)) w := by kernel_rfl
theorem Tryd.parts25 (a : Addr) (w : World) : (ReflectliteValue.parts (.agg #[.pointer (some ⟨1, 109, none⟩), .pointer (some a), .int .u64 150])).run Tryd.prog w = .ok (some (109, a, 150)) w := by kernel_rfl
theorem Tryd.direct25 (w : World) : (Rtype.directlyAssignable 109 109).run Tryd.prog w = .ok true w := by kernel_rfl
theorem Tryd.size25 (w : World) : (sizeOf 109).run Tryd.prog w = .ok 1 w := by kernel_rfl
/-- (Value).Set: the *p.E variable at 'ta' gets what the Value's own variable 'b' holds. -/
theorem Tryd.set25 (ta b e : Addr) (old : Value) (W : World) (hb : W.cell? b = some (.pointer (some e))) (ht : W.cell? ta = some old) (hf : W.frozen? ta = false) :
    (ReflectliteValue.set #[.agg #[.pointer (some ⟨1, 109, none⟩), .pointer (some ta), .int .u64 406], .agg #[.pointer (some ⟨1, 109, none⟩), .pointer (some b), .int .u64 150]]).run Tryd.prog W
      = .ok (.tuple #[]) (W.setCell ta (.pointer (some e))) := by
  rw [rls]
  simp only [Sem.run_bind, Tryd.parts25a, Tryd.parts25, Result.andThen]
  simp [ReflectliteValue.flagAddr, loadVar, isAgg, underlying, Tryd.underlying109, hb, Result.andThen, Tryd.direct25, storeVar, Value.cells, storeCells, Addr.add]
  rw [run_store Tryd.prog W ta _ _ (by rfl)]
  simp [ht, hf]

set_option maxHeartbeats 8000000 in
set_option maxRecDepth 100000 in
theorem as_hit (e t : Addr) (old : Value) (w : World) (hg : w.cell? ⟨0, 0, none⟩ = some (.iface 181 (.agg #[.pointer (some ⟨1, 30, none⟩)]))) (ht0 : w.cell? t = some old) (hf0 : w.frozen? t = false) :
    Calls Tryd.prog 70 #[.iface 109 (.pointer (some e)), .iface 111 (.pointer (some t))] w fun ev w' => ev = .returned (.bool true) ∧ w' = ((((w.alloc (.cells #[.pointer (some t)] 111)).alloc (.cells #[.pointer (some ⟨1, 111, none⟩), .pointer (some ⟨w.heap.size, 0, none⟩), .int .u64 150] 159)).alloc (.cells #[.pointer (some ⟨1, 111, none⟩), .pointer (some ⟨w.heap.size, 0, none⟩), .int .u64 150] 159)).alloc (.cells #[.pointer (some e)] 109)).setCell t (.pointer (some e)) := by
  have h6 := @run_callFunc_extern Tryd.prog 118 _ (fun args => ReflectliteValue.unpack (args.getD 0 (.tuple #[]))) Tryd.func118 (by kernel_rfl) (by kernel_rfl) (by kernel_rfl) (by kernel_rfl)
  have h7 := @run_callFunc_extern Tryd.prog 119 _ (ReflectliteValue.methodAny (ReflectliteValue.valueError "reflectlite.Value.Type" 0) (fun t _ _ _ => ReflectliteType.toType t)) Tryd.func119 (by kernel_rfl) (by kernel_rfl) (by kernel_rfl) (by kernel_rfl)
  have h8 := @run_callFunc_extern Tryd.prog 120 _ (ReflectliteValue.method (ReflectliteValue.valueError "reflectlite.Value.IsNil" 0) ReflectliteValue.isNil) Tryd.func120 (by kernel_rfl) (by kernel_rfl) (by kernel_rfl) (by kernel_rfl)
  have h27 := @run_callFunc_extern Tryd.prog 151 _ (ReflectliteType.abiMethod fun t => do pure (.int .u8 (← Rtype.kind t))) Tryd.func151 (by kernel_rfl) (by kernel_rfl) (by kernel_rfl) (by kernel_rfl)
  have h37 := @run_callFunc_extern Tryd.prog 163 _ (ReflectliteType.method ReflectliteType.elem) Tryd.func163 (by kernel_rfl) (by kernel_rfl) (by kernel_rfl) (by kernel_rfl)
  have h38 := @run_callFunc_extern Tryd.prog 164 _ (ReflectliteType.relation "Implements" ReflectliteType.implements_) Tryd.func164 (by kernel_rfl) (by kernel_rfl) (by kernel_rfl) (by kernel_rfl)
  have h10 := @run_callFunc_extern Tryd.prog 132 _ ReflectliteType.typeOf Tryd.func132 (by kernel_rfl) (by kernel_rfl) (by kernel_rfl) (by kernel_rfl)
  have h35 := @run_callFunc_extern Tryd.prog 161 _ (ReflectliteType.relation "AssignableTo" ReflectliteType.assignableTo) Tryd.func161 (by kernel_rfl) (by kernel_rfl) (by kernel_rfl) (by kernel_rfl)
  have h11 := @run_callFunc_extern Tryd.prog 133 _ (ReflectliteValue.method (ReflectliteValue.valueError "reflectlite.Value.Elem" 0) ReflectliteValue.elem) Tryd.func133 (by kernel_rfl) (by kernel_rfl) (by kernel_rfl) (by kernel_rfl)
  have h12 := @run_callFunc_extern Tryd.prog 134 _ ReflectliteValue.set Tryd.func134 (by kernel_rfl) (by kernel_rfl) (by kernel_rfl) (by kernel_rfl)
  have tO := Tryd.typeOf25
  have mA := Tryd.methodAssignableTo
  have a25 := Tryd.assignable25
  have v25 := Tryd.valueOf25
  have f6 := Tryd.valueOf27
  have f7 := Tryd.type27
  have mK := Tryd.methodKind
  have mE := Tryd.methodElem
  have mI := Tryd.methodImplements
  have k27 := Tryd.kind27
  have k25 := Tryd.kind25
  have e27 := Tryd.elem27
  have i25 := Tryd.implements25
  have n8 := Tryd.isNil27 ⟨w.heap.size, 0, none⟩ t ((w.alloc (.cells #[.pointer (some t)] 111)).alloc (.cells #[.pointer (some ⟨1, 111, none⟩), .pointer (some ⟨w.heap.size, 0, none⟩), .int .u64 150] 159)) (by simp)
  have hlt : 0 < w.heap.size := by
    rcases Nat.eq_zero_or_pos w.heap.size with h0 | h
    · simp [World.cell?, h0] at hg
    · exact h
  have hg2 : ((w.alloc (.cells #[.pointer (some t)] 111)).alloc (.cells #[.pointer (some ⟨1, 111, none⟩), .pointer (some ⟨w.heap.size, 0, none⟩), .int .u64 150] 159)).cell? ⟨0, 0, none⟩ = some (.iface 181 (.agg #[.pointer (some ⟨1, 30, none⟩)])) := by
    rw [World.cell?_alloc_lt _ _ ⟨0, 0, none⟩ (by simp), World.cell?_alloc_lt _ _ ⟨0, 0, none⟩ hlt]; exact hg
  have htl : t.block < w.heap.size := by
    rcases Nat.lt_or_ge t.block w.heap.size with h | h
    · exact h
    · simp [World.cell?, Array.getElem?_eq_none h] at ht0
  have el := Tryd.elemV27 ⟨w.heap.size, 0, none⟩ t (((w.alloc (.cells #[.pointer (some t)] 111)).alloc (.cells #[.pointer (some ⟨1, 111, none⟩), .pointer (some ⟨w.heap.size, 0, none⟩), .int .u64 150] 159)).alloc (.cells #[.pointer (some ⟨1, 111, none⟩), .pointer (some ⟨w.heap.size, 0, none⟩), .int .u64 150] 159)) (by rw [World.cell?_alloc_lt _ _ ⟨w.heap.size, 0, none⟩ (by simp; omega)]; simp)
  have st := Tryd.set25 t ⟨w.heap.size + 1 + 1 + 1, 0, none⟩ e old ((((w.alloc (.cells #[.pointer (some t)] 111)).alloc (.cells #[.pointer (some ⟨1, 111, none⟩), .pointer (some ⟨w.heap.size, 0, none⟩), .int .u64 150] 159)).alloc (.cells #[.pointer (some ⟨1, 111, none⟩), .pointer (some ⟨w.heap.size, 0, none⟩), .int .u64 150] 159)).alloc (.cells #[.pointer (some e)] 109))
    (by rw [World.cell?_alloc_at _ _ _ _ (by simp)]; rfl)
    (by rw [World.cell?_alloc_lt _ _ t (by simp; omega), World.cell?_alloc_lt _ _ t (by simp; omega), World.cell?_alloc_lt _ _ t (by simp; omega), World.cell?_alloc_lt _ _ t htl]; exact ht0)
    (by rw [World.frozen?_alloc_old _ _ t (by simp; omega), World.frozen?_alloc_old _ _ t (by simp; omega), World.frozen?_alloc_old _ _ t (by simp; omega), World.frozen?_alloc_old _ _ t (Nat.ne_of_lt htl)]; exact hf0)
  go_enter Tryd.func70, Tryd.ntmps70
  go_wp2
  refine wp_loop_rounds 1 ?_
  rw [rounds_succ]
  go_wp2
  go_ret
  exact ⟨rfl, rfl⟩
end Go.Proofs.YtkmlinaofbcbaaaDoor
namespace Go.Proofs.YtkmlinaofbcbaaaDoor
open Go Go.Va
set_option linter.unusedVariables false
set_option linter.unusedSimpArgs false
def gls : List (Addr × Value) := [(⟨0, 0, none⟩, .iface 181 (.agg #[.pointer (some ⟨1, 30, none⟩)]))]
section
variable {P : Program} {Ty : TypeId → Option TI} {fr : Nat → AV} {d : Option Tmp} {t : TypeId} {pos : String} {af : Array Edge} {g : Option (Nat × Bool)} {ox oy : Operand} {T T' : TypeId}
theorem o_err_eql (hT : TyOk P Ty) {x : Err} (ht : tdOf Ty T = .iface) (hx : aeval fr ox = eErr x) (hy : oy = .const .nilIface) : OpP P ⟨d, .binOp .eql T ox oy T', t, pos, af, g⟩ fr (eB x.isNil) := by
  subst hy
  refine OpP.of_aop' hT (mu := false) rfl (fun τ => ?_)
  have h2 : aeval fr (.const .nilIface) = .nili := rfl
  simp only [aop, hx, h2]
  cases x with
  | nil => simp [eErr, abin', abin, ht, isC, aeq, pairO, Err.isNil, eB]
  | fault o a c u => simp [eErr, abin', abin, ht, isC, aeq, pairO, Err.isNil, eB]
theorem o_err_neq (hT : TyOk P Ty) {x : Err} (ht : tdOf Ty T = .iface) (hx : aeval fr ox = eErr x) (hy : oy = .const .nilIface) : OpP P ⟨d, .binOp .neq T ox oy T', t, pos, af, g⟩ fr (eB (!x.isNil)) := by
  subst hy
  refine OpP.of_aop' hT (mu := false) rfl (fun τ => ?_)
  have h2 : aeval fr (.const .nilIface) = .nili := rfl
  simp only [aop, hx, h2]
  cases x with
  | nil => simp [eErr, abin', abin, ht, isC, aeq, pairO, Err.isNil, eB]
  | fault o a c u => simp [eErr, abin', abin, ht, isC, aeq, pairO, Err.isNil, eB]
end
/-- The pointer that an error holds. -/
def Err.ptr : Err → AV
  | .nil => .nilp
  | .fault o a c u => .fptr [eS o, eI a, eI c, eErr u] 0
theorem as_ok {x : Err} (hx : x.isNil = false) {σ : St} {id : Nat} (ho : σ.objs[id]? = some [.nilp]) (hg : σ.gl = gls) : ACall Tryd.prog 70 [eErr x, .iface 111 (.ref id 0)] σ (fun a τ => a = eB true ∧ τ = σ.puts [(id, [x.ptr])]) := by
  cases x with
  | nil => cases hx
  | fault o a c u =>
    refine ⟨⟨_, Tryd.func70, by decide, rfl⟩, fun w0 G w vs hI hr => ?_⟩
    obtain ⟨v0, h0, r0⟩ := hr.get (i := 0) rfl
    obtain ⟨v1, h1, r1⟩ := hr.get (i := 1) rfl
    have hvs : vs = #[v0, v1] := by
      obtain ⟨l⟩ := vs
      have hl := hr.len
      simp only [List.length_cons, List.length_nil] at hl h0 h1
      match l, hl, h0, h1 with
      | [x, y], _, h0, h1 => simp at h0 h1; subst h0; subst h1; rfl
    subst hvs
    simp only [eErr] at r0
    cases r0 with | iface _ v0 _ r0 =>
    cases r1 with | iface _ v1 _ r1 =>
    cases r0 with | fptr b o' off _ val hf hv =>
    cases r1 with | ref _ _ b1 hl =>
    obtain ⟨b2, T, cs, e1, e2, e3, e4, e5, e6⟩ := hI.loc id _ ho (by simp)
    rw [hl] at e1
    cases e1
    obtain ⟨u1, hu1, ru1⟩ := e4.rel.get (i := 0) rfl
    have hcs : cs[0]? = some (.pointer none) := by
      cases ru1
      rw [List.getElem?_take] at hu1
      simpa using hu1
    have hsz : 1 ≤ cs.size := e4.le
    have hglob := hI.below
    have hg0 : w0.cell? ⟨0, 0, none⟩ = some (.iface 181 (.agg #[.pointer (some ⟨1, 30, none⟩)])) := hI.gl _ (by rw [hg]; exact List.mem_singleton.2 rfl)
    have hg1 : w.cell? ⟨0, 0, none⟩ = some (.iface 181 (.agg #[.pointer (some ⟨1, 30, none⟩)])) := by
      have hb := World.block_lt_of_cell? w0 _ hg0
      simp only [World.cell?] at hg0 ⊢
      rw [hI.below.block _ hb]; exact hg0
    have hc : w.cell? ⟨b1, 0, none⟩ = some (.pointer none) := by simp [World.cell?, e3, hcs]
    have hfz : w.frozen? ⟨b1, 0, none⟩ = false := by simp [World.frozen?, e3]
    refine (as_hit ⟨b, o' + 0, none⟩ ⟨b1, 0, none⟩ (.pointer none) w hg1 hc hfz).mono ?_
    rintro e w' ⟨rfl, rfl⟩
    have k1 := hI.alloc_fz #[.pointer (some ⟨b1, 0, none⟩)] 111 (by simp [Value.oneCell']) (0, 0)
    have k2 := k1.2.alloc_fz #[.pointer (some ⟨1, 111, none⟩), .pointer (some ⟨w.heap.size, 0, none⟩), .int .u64 150] 159 (by simp [Value.oneCell']) (0, 0)
    have k3 := k2.2.alloc_fz #[.pointer (some ⟨1, 111, none⟩), .pointer (some ⟨w.heap.size, 0, none⟩), .int .u64 150] 159 (by simp [Value.oneCell']) (0, 0)
    have k4 := k3.2.alloc_fz #[.pointer (some ⟨b, o' + 0, none⟩)] 109 (by simp [Value.oneCell']) (0, 0)
    have hle := k1.1.trans (k2.1.trans (k3.1.trans k4.1))
    have hb1 : b1 < w.heap.size := (Array.getElem?_eq_some_iff.1 e3).1
    have k5 := k4.2.write (id := id) (off := 0) (news := [.pointer (some ⟨b, o' + 0, none⟩)]) (nc := [.fptr [eS o, eI a, eI c, eErr u] 0]) ho (hle.loc _ _ hl) (by simp) ((RelL.nil _).cons (.fptr b o' 0 _ val (fun j a h1 => hle.fz _ _ _ (hf j a h1)) (fun j a h1 => (hv j a h1).mono hle))) (by simp [Value.oneCell']) (by simp) (by rw [hle.bsz _ _ hl, ← e6]; simpa using hsz)
    refine ⟨.bool true, eB true, _, _, rfl, hle, ?_, .bool true, rfl, rfl⟩
    simp only [World.setCells, List.take_zero, List.nil_append, List.length_cons, List.length_nil, List.drop_succ_cons, List.drop_zero, List.drop_nil, List.append_nil] at k5
    exact k5
end Go.Proofs.YtkmlinaofbcbaaaDoor
namespace Go.Proofs.YtkmlinaofbcbaaaDoor
open Go Go.Va
set_option linter.unusedVariables false
set_option linter.unusedSimpArgs false
set_option maxRecDepth 20000
theorem butterylaw06_Light_ok {x0 : List api_Entry} {r : Int} (H : butterylaw06_Light x0 = some r) (σ : St)  : ACall Tryd.prog 30 [((eL 5 e_api_Entry) x0)] σ (fun a τ => a = eI r ∧ τ = σ) := by
  unfold butterylaw06_Light at H
  refine ACall.pure (acall_start tk Tryd.func30 (by decide) rfl (Nat.le_of_ble_eq_true rfl) ?_)
  have hH := Holds.init σ
  refine awp_seq ?_
  refine awp_region rfl ?_
  refine wpo_mv (a := (eI (0 : Int))) rfl rfl rfl (o_as tk rfl (Wk.refl _)) ?_
  refine wpo_nil ?_
  refine awp_seq ?_
  refine awp_seq ?_
  refine awp_region rfl ?_
  refine wpo_mv (a := ((eL 5 e_api_Entry) x0)) rfl rfl rfl (o_mv tk rfl (Wk.refl _)) ?_
  refine wpo_lt H eI rfl rfl rfl (o_len tk td60 rfl) fun v2 H1 => ?_
  refine wpo_lt H1 eB rfl rfl rfl (o_ar tk rfl rfl rfl) fun v4 H3 => ?_
  refine wpo_nil ?_
  refine awp_if H3 rfl (fun H5 => ?_) (fun H5 => ?_)
  · refine awp_seq ?_
    refine awp_region rfl ?_
    refine wpo_mv (a := (eI (1 : Int))) rfl rfl rfl (o_as tk rfl (Wk.refl _)) ?_
    refine wpo_nil ?_
    refine awp_ret ?_
    obtain rfl := Option.some.inj H5
    exact ⟨_, (eI (1 : Int)), rfl, (.of_eq rfl), .of_eq ((enc_i64 td3 sz3).cut _ _ _), hH.noT⟩
  · refine awp_skip ?_
    refine awp_seq ?_
    refine awp_region rfl ?_
    refine wpo_mv (a := (eI (0 : Int))) rfl rfl rfl (o_as tk rfl (Wk.refl _)) ?_
    refine wpo_nil ?_
    refine awp_seq ?_
    refine awp_seq ?_
    refine awp_region rfl ?_
    refine wpo_mv (a := (eI (0 : Int))) rfl rfl rfl (o_as tk rfl (Wk.refl _)) ?_
    refine wpo_nil ?_
    refine awp_block ?_
    obtain ⟨o8, hs9, hj10⟩ := Option.bind_eq_some_iff.1 H5
    refine awp_cutx 0 (fun fr τ => ∃ s15 : Unit, o8 = .inl s15 ∧ WkF fr (fm []) ∧ Holds σ [] [] τ) ?_ ?_
    · rintro fr τ ⟨s15, rfl, hfr, hH⟩
      have H54 := hj10
      simp only [Sum.elim_inl] at H54
      refine AWP.fm [] hfr ?_
      refine awp_seq ?_
      refine awp_region rfl ?_
      refine wpo_mv (a := (eI (0 : Int))) rfl rfl rfl (o_as tk rfl (Wk.refl _)) ?_
      refine wpo_nil ?_
      refine awp_ret ?_
      obtain rfl := Option.some.inj H54
      exact ⟨_, (eI (0 : Int)), rfl, (.of_eq rfl), .of_eq ((enc_i64 td3 sz3).cut _ _ _), hH.noT⟩
    · refine awp_loopO (body := fun s => butterylaw06_Light_b0 x0 s.1 s.2) hs9 (fun (s : Int × Int) fr τ => WkF fr (fm [(0, ((eL 5 e_api_Entry) x0)), (3, (eI s.1)), (4, (eI s.2))]) ∧ Holds σ [] [] τ) ⟨(wkf_cons (.of_eq rfl) (wkf_cons (.of_eq rfl) (wkf_cons (.of_eq rfl) (wkf_nil _)))), hH⟩ ?_
      rintro ⟨c6, c7⟩ fr τ y11 ⟨hfr, hH⟩ hb13 hy14
      have H16 : butterylaw06_Light_b0 x0 c6 c7 = some y11 := hb13
      unfold butterylaw06_Light_b0 at H16
      refine AWP.fm [(0, ((eL 5 e_api_Entry) x0)), (3, (eI c6)), (4, (eI c7))] hfr ?_
      have hH : Holds σ [] [] τ := hH
      refine awp_seq ?_
      refine awp_seq ?_
      refine awp_region rfl ?_
      refine wpo_mv (a := (eI c7)) rfl rfl rfl (o_mv tk rfl (Wk.refl _)) ?_
      refine wpo_mv (a := ((eL 5 e_api_Entry) x0)) rfl rfl rfl (o_mv tk rfl (Wk.refl _)) ?_
      refine wpo_lt H16 eI rfl rfl rfl (o_len tk td60 rfl) fun v18 H17 => ?_
      refine wpo_lt H17 eB rfl rfl rfl (o_ar tk rfl rfl rfl) fun v20 H19 => ?_
      refine wpo_nil ?_
      refine awp_if H19 rfl (fun H21 => ?_) (fun H21 => ?_)
      · refine awp_skip ?_
        refine awp_seq ?_
        refine awp_block ?_
        refine awp_seq ?_
        refine awp_seq ?_
        obtain ⟨s22, hs24, hj25⟩ := Option.bind_eq_some_iff.1 H21
        refine awp_cutn (fun fr τ => WkF fr (fm [(0, ((eL 5 e_api_Entry) x0)), (3, (eI c6)), (4, (eI c7)), (29, (eB s22))]) ∧ Holds σ [] [] τ) ?_ ?_
        · rintro fr τ ⟨hfr, hH⟩
          have H39 := hj25
          refine AWP.fm [(0, ((eL 5 e_api_Entry) x0)), (3, (eI c6)), (4, (eI c7)), (29, (eB s22))] hfr ?_
          refine awp_if H39 rfl (fun H40 => ?_) (fun H40 => ?_)
          · refine awp_seq ?_
            refine awp_region rfl ?_
            refine wpo_mv (a := (eI (1 : Int))) rfl rfl rfl (o_as tk rfl (Wk.refl _)) ?_
            refine wpo_nil ?_
            refine awp_ret ?_
            have hz := hy14 _ (inj_inr H40)
            refine ⟨⟨_, inj_inr H40⟩, ?_⟩
            rw [← hz] at hj10
            have H41 := (show some _ = some _ from hj10)
            obtain rfl := Option.some.inj H41
            exact ⟨_, (eI (1 : Int)), rfl, (.of_eq rfl), .of_eq ((enc_i64 td3 sz3).cut _ _ _), hH.noT⟩
          · refine awp_skip ?_
            refine awp_seq ?_
            refine awp_region rfl ?_
            refine wpo_mv (a := (eI c6)) rfl rfl rfl (o_mv tk rfl (Wk.refl _)) ?_
            refine wpo_mv (a := ((eL 5 e_api_Entry) x0)) rfl rfl rfl (o_mv tk rfl (Wk.refl _)) ?_
            refine wpo_mv (a := (eI c7)) rfl rfl rfl (o_mv tk rfl (Wk.refl _)) ?_
            refine wpo_bd H40 (fun y => .fptr (e_api_Entry y).cells 0) rfl rfl rfl (fun v43 hv => o_ixa tk hv td60 enc24 rfl rfl) fun v43 hv43 H42 => ?_
            refine wpo_mv (a := (.fptr (c_api_Entry v43) 4)) rfl rfl rfl (o_c tk false rfl (fun _ => rfl)) ?_
            refine wpo_mv (a := ((eL 1 (@eU .u8 8)) v43.Value)) rfl rfl rfl (o_ld tk rfl rfl) ?_
            refine wpo_lt H42 eI rfl rfl rfl (o_len tk td22 rfl) fun v45 H44 => ?_
            refine wpo_lt H44 eI rfl rfl rfl (o_ar tk rfl rfl rfl) fun v47 H46 => ?_
            refine wpo_mv (a := (eI v47)) rfl rfl rfl (o_as tk rfl (Wk.refl _)) ?_
            refine wpo_nil ?_
            refine awp_seq ?_
            refine awp_region rfl ?_
            refine wpo_mv (a := (eI v47)) rfl rfl rfl (o_mv tk rfl (Wk.refl _)) ?_
            refine wpo_lt H46 eB rfl rfl rfl (o_ar tk rfl rfl rfl) fun v49 H48 => ?_
            refine wpo_nil ?_
            refine awp_if H48 rfl (fun H50 => ?_) (fun H50 => ?_)
            · refine awp_seq ?_
              refine awp_region rfl ?_
              refine wpo_mv (a := (eI (1 : Int))) rfl rfl rfl (o_as tk rfl (Wk.refl _)) ?_
              refine wpo_nil ?_
              refine awp_ret ?_
              have hz := hy14 _ (inj_inr H50)
              refine ⟨⟨_, inj_inr H50⟩, ?_⟩
              rw [← hz] at hj10
              have H51 := (show some _ = some _ from hj10)
              obtain rfl := Option.some.inj H51
              exact ⟨_, (eI (1 : Int)), rfl, (.of_eq rfl), .of_eq ((enc_i64 td3 sz3).cut _ _ _), hH.noT⟩
            · refine awp_skip ?_
              refine awp_region rfl ?_
              refine wpo_mv (a := (eI c7)) rfl rfl rfl (o_mv tk rfl (Wk.refl _)) ?_
              refine wpo_lt H50 eI rfl rfl rfl (o_ar tk rfl rfl rfl) fun v53 H52 => ?_
              refine wpo_mv (a := (eI v53)) rfl rfl rfl (o_as tk rfl (Wk.refl _)) ?_
              refine wpo_nil ?_
              exact ⟨(v47, v53), inj_inl H52, (wkf_cons (.of_eq rfl) (wkf_cons (.of_eq rfl) (wkf_cons (.of_eq rfl) (wkf_nil _)))), hH⟩
        · refine awp_region rfl ?_
          refine wpo_mv (a := ((eL 5 e_api_Entry) x0)) rfl rfl rfl (o_mv tk rfl (Wk.refl _)) ?_
          refine wpo_mv (a := (eI c7)) rfl rfl rfl (o_mv tk rfl (Wk.refl _)) ?_
          refine wpo_bd hs24 (fun y => .fptr (e_api_Entry y).cells 0) rfl rfl rfl (fun v27 hv => o_ixa tk hv td60 enc24 rfl rfl) fun v27 hv27 H26 => ?_
          refine wpo_mv (a := (.fptr (c_api_Entry v27) 0)) rfl rfl rfl (o_c tk false rfl (fun _ => rfl)) ?_
          refine wpo_mv (a := (eS v27.Key)) rfl rfl rfl (o_ld tk rfl rfl) ?_
          refine wpo_lt H26 eI rfl rfl rfl (o_len_s tk td9 rfl) fun v29 H28 => ?_
          refine wpo_lt H28 eB rfl rfl rfl (o_ar tk rfl rfl rfl) fun v31 H30 => ?_
          refine wpo_mv (a := (eB v31)) rfl rfl rfl (o_mv tk rfl (Wk.refl _)) ?_
          refine if_split H30 (fun hb H32 => ?_) (fun hb H32 => ?_)
          · subst hb
            refine wpo_skip rfl rfl rfl ?_
            refine wpo_skip rfl rfl rfl ?_
            refine wpo_skip rfl rfl rfl ?_
            refine wpo_skip rfl rfl rfl ?_
            refine wpo_skip rfl rfl rfl ?_
            refine wpo_skip rfl rfl rfl ?_
            refine wpo_skip rfl rfl rfl ?_
            refine wpo_mv (a := (eB true)) rfl rfl rfl (o_pick_t tk rfl rfl (Wk.refl _)) ?_
            refine wpo_nil ?_
            have e := Option.some.inj H32
            subst e
            exact ⟨(wkf_cons (.of_eq rfl) (wkf_cons (.of_eq rfl) (wkf_cons (.of_eq rfl) (wkf_cons (.of_eq rfl) (wkf_nil _))))), hH⟩
          · subst hb
            refine wpo_mv (a := ((eL 5 e_api_Entry) x0)) rfl rfl rfl (o_mv tk rfl (Wk.refl _)) ?_
            refine wpo_mv (a := (eI c7)) rfl rfl rfl (o_mv tk rfl (Wk.refl _)) ?_
            refine wpo_bd H32 (fun y => .fptr (e_api_Entry y).cells 0) rfl rfl rfl (fun v34 hv => o_ixa tk hv td60 enc24 rfl rfl) fun v34 hv34 H33 => ?_
            refine wpo_mv (a := (.fptr (c_api_Entry v34) 4)) rfl rfl rfl (o_c tk false rfl (fun _ => rfl)) ?_
            refine wpo_mv (a := ((eL 1 (@eU .u8 8)) v34.Value)) rfl rfl rfl (o_ld tk rfl rfl) ?_
            refine wpo_lt H33 eI rfl rfl rfl (o_len tk td22 rfl) fun v36 H35 => ?_
            refine wpo_lt H35 eB rfl rfl rfl (o_ar tk rfl rfl rfl) fun v38 H37 => ?_
            refine wpo_mv (a := (eB v38)) rfl rfl rfl (o_pick_f tk rfl rfl (Wk.refl _)) ?_
            refine wpo_nil ?_
            have e := Option.some.inj H37
            subst e
            exact ⟨(wkf_cons (.of_eq rfl) (wkf_cons (.of_eq rfl) (wkf_cons (.of_eq rfl) (wkf_cons (.of_eq rfl) (wkf_nil _))))), hH⟩
      · refine awp_exit ?_
        have hz := hy14 _ (inj_inr H21)
        exact ⟨⟨_, inj_inr H21⟩, (), hz.symm, (wkf_nil _), hH⟩
end Go.Proofs.YtkmlinaofbcbaaaDoor
namespace Go.Proofs.YtkmlinaofbcbaaaDoor
open Go Go.Va
set_option linter.unusedVariables false
set_option linter.unusedSimpArgs false
set_option maxRecDepth 20000
theorem butteryref02_Same_ok {x0 : List (BitVec 8)} {x1 : List (BitVec 8)} {r : Bool} (H : butteryref02_Same x0 x1 = some r) (σ : St)  : ACall Tryd.prog 16 [((eL 1 (@eU .u8 8)) x0), ((eL 1 (@eU .u8 8)) x1)] σ (fun a τ => a = eB r ∧ τ = σ) := by
  unfold butteryref02_Same at H
  refine ACall.pure (acall_start tk Tryd.func16 (by decide) rfl (Nat.le_of_ble_eq_true rfl) ?_)
  have hH := Holds.init σ
  refine awp_seq ?_
  refine awp_region rfl ?_
  refine wpo_mv (a := (eB false)) rfl rfl rfl (o_as tk rfl (Wk.refl _)) ?_
  refine wpo_nil ?_
  refine awp_seq ?_
  refine awp_seq ?_
  refine awp_region rfl ?_
  refine wpo_mv (a := ((eL 1 (@eU .u8 8)) x0)) rfl rfl rfl (o_mv tk rfl (Wk.refl _)) ?_
  refine wpo_lt H eI rfl rfl rfl (o_len tk td22 rfl) fun v2 H1 => ?_
  refine wpo_mv (a := ((eL 1 (@eU .u8 8)) x1)) rfl rfl rfl (o_mv tk rfl (Wk.refl _)) ?_
  refine wpo_lt H1 eI rfl rfl rfl (o_len tk td22 rfl) fun v4 H3 => ?_
  refine wpo_lt H3 eB rfl rfl rfl (o_ar tk rfl rfl rfl) fun v6 H5 => ?_
  refine wpo_nil ?_
  refine awp_if H5 rfl (fun H7 => ?_) (fun H7 => ?_)
  · refine awp_seq ?_
    refine awp_region rfl ?_
    refine wpo_mv (a := (eB false)) rfl rfl rfl (o_as tk rfl (Wk.refl _)) ?_
    refine wpo_nil ?_
    refine awp_ret ?_
    obtain rfl := Option.some.inj H7
    exact ⟨_, (eB false), rfl, (.of_eq rfl), .of_eq ((enc_b td4 sz4).cut _ _ _), hH.noT⟩
  · refine awp_skip ?_
    refine awp_seq ?_
    refine awp_seq ?_
    refine awp_region rfl ?_
    refine wpo_mv (a := (eI (0 : Int))) rfl rfl rfl (o_as tk rfl (Wk.refl _)) ?_
    refine wpo_nil ?_
    refine awp_block ?_
    obtain ⟨o9, hs10, hj11⟩ := Option.bind_eq_some_iff.1 H7
    refine awp_cutx 0 (fun fr τ => ∃ s16 : Unit, o9 = .inl s16 ∧ WkF fr (fm []) ∧ Holds σ [] [] τ) ?_ ?_
    · rintro fr τ ⟨s16, rfl, hfr, hH⟩
      have H33 := hj11
      simp only [Sum.elim_inl] at H33
      refine AWP.fm [] hfr ?_
      refine awp_seq ?_
      refine awp_region rfl ?_
      refine wpo_mv (a := (eB true)) rfl rfl rfl (o_as tk rfl (Wk.refl _)) ?_
      refine wpo_nil ?_
      refine awp_ret ?_
      obtain rfl := Option.some.inj H33
      exact ⟨_, (eB true), rfl, (.of_eq rfl), .of_eq ((enc_b td4 sz4).cut _ _ _), hH.noT⟩
    · refine awp_loopO (body := fun s => butteryref02_Same_b0 x0 x1 s) hs10 (fun (s : Int) fr τ => WkF fr (fm [(0, ((eL 1 (@eU .u8 8)) x0)), (1, ((eL 1 (@eU .u8 8)) x1)), (5, (eI s))]) ∧ Holds σ [] [] τ) ⟨(wkf_cons (.of_eq rfl) (wkf_cons (.of_eq rfl) (wkf_cons (.of_eq rfl) (wkf_nil _)))), hH⟩ ?_
      rintro c8 fr τ y12 ⟨hfr, hH⟩ hb14 hy15
      have H17 : butteryref02_Same_b0 x0 x1 c8 = some y12 := hb14
      unfold butteryref02_Same_b0 at H17
      refine AWP.fm [(0, ((eL 1 (@eU .u8 8)) x0)), (1, ((eL 1 (@eU .u8 8)) x1)), (5, (eI c8))] hfr ?_
      have hH : Holds σ [] [] τ := hH
      refine awp_seq ?_
      refine awp_seq ?_
      refine awp_region rfl ?_
      refine wpo_mv (a := (eI c8)) rfl rfl rfl (o_mv tk rfl (Wk.refl _)) ?_
      refine wpo_mv (a := ((eL 1 (@eU .u8 8)) x0)) rfl rfl rfl (o_mv tk rfl (Wk.refl _)) ?_
      refine wpo_lt H17 eI rfl rfl rfl (o_len tk td22 rfl) fun v19 H18 => ?_
      refine wpo_lt H18 eB rfl rfl rfl (o_ar tk rfl rfl rfl) fun v21 H20 => ?_
      refine wpo_nil ?_
      refine awp_if H20 rfl (fun H22 => ?_) (fun H22 => ?_)
      · refine awp_skip ?_
        refine awp_seq ?_
        refine awp_block ?_
        refine awp_seq ?_
        refine awp_drawS mixed [] rfl (by decide +kernel) rfl rfl ?_
        refine wpdS_mv (a := ((eL 1 (@eU .u8 8)) x0)) rfl rfl rfl (o_mv tk rfl (Wk.refl _)) ?_
        refine wpdS_mv (a := (eI c8)) rfl rfl rfl (o_mv tk rfl (Wk.refl _)) ?_
        refine wpdS_bd H22 (fun y => .fptr ((@eU .u8 8) y).cells 0) rfl rfl rfl (fun v24 hv => o_ixa tk hv td22 (enc_u td5 sz5) rfl rfl) fun v24 hv24 H23 => ?_
        refine wpdS_mv (a := ((@eU .u8 8) v24)) rfl rfl rfl (o_ld_e tk (enc_u td5 sz5) rfl rfl) ?_
        refine wpdS_mv (a := ((eL 1 (@eU .u8 8)) x1)) rfl rfl rfl (o_mv tk rfl (Wk.refl _)) ?_
        refine wpdS_mv (a := (eI c8)) rfl rfl rfl (o_mv tk rfl (Wk.refl _)) ?_
        refine wpdS_bd H23 (fun y => .fptr ((@eU .u8 8) y).cells 0) rfl rfl rfl (fun v26 hv => o_ixa tk hv td22 (enc_u td5 sz5) rfl rfl) fun v26 hv26 H25 => ?_
        refine wpdS_mv (a := ((@eU .u8 8) v26)) rfl rfl rfl (o_ld_e tk (enc_u td5 sz5) rfl rfl) ?_
        refine wpdS_lt H25 eB rfl rfl rfl (o_neq_u tk rfl rfl) fun v28 H27 => ?_
        refine wpdS_nil ?_
        refine awp_if H27 rfl (fun H29 => ?_) (fun H29 => ?_)
        · refine awp_seq ?_
          refine awp_region rfl ?_
          refine wpo_mv (a := (eB false)) rfl rfl rfl (o_as tk rfl (Wk.refl _)) ?_
          refine wpo_nil ?_
          refine awp_ret ?_
          have hz := hy15 _ (inj_inr H29)
          refine ⟨⟨_, inj_inr H29⟩, ?_⟩
          rw [← hz] at hj11
          have H30 := (show some _ = some _ from hj11)
          obtain rfl := Option.some.inj H30
          exact ⟨_, (eB false), rfl, (.of_eq rfl), .of_eq ((enc_b td4 sz4).cut _ _ _), hH.noT⟩
        · refine awp_skip ?_
          refine awp_region rfl ?_
          refine wpo_mv (a := (eI c8)) rfl rfl rfl (o_mv tk rfl (Wk.refl _)) ?_
          refine wpo_lt H29 eI rfl rfl rfl (o_ar tk rfl rfl rfl) fun v32 H31 => ?_
          refine wpo_mv (a := (eI v32)) rfl rfl rfl (o_as tk rfl (Wk.refl _)) ?_
          refine wpo_nil ?_
          exact ⟨v32, inj_inl H31, (wkf_cons (.of_eq rfl) (wkf_cons (.of_eq rfl) (wkf_cons (.of_eq rfl) (wkf_nil _)))), hH⟩
      · refine awp_exit ?_
        have hz := hy15 _ (inj_inr H22)
        exact ⟨⟨_, inj_inr H22⟩, (), hz.symm, (wkf_nil _), hH⟩
end Go.Proofs.YtkmlinaofbcbaaaDoor
namespace Go.Proofs.YtkmlinaofbcbaaaDoor
open Go Go.Va
set_option linter.unusedVariables false
set_option linter.unusedSimpArgs false
set_option maxRecDepth 20000
theorem butteryref06_Same_ok {x0 : api_Entry} {x1 : api_Entry} {r : Bool} (H : butteryref06_Same x0 x1 = some r) (σ : St)  : ACall Tryd.prog 58 [(e_api_Entry x0), (e_api_Entry x1)] σ (fun a τ => a = eB r ∧ τ = σ) := by
  unfold butteryref06_Same at H
  refine ACall.pure (acall_start tk Tryd.func58 (by decide) rfl (Nat.le_of_ble_eq_true rfl) ?_)
  have hH := Holds.init σ
  refine awp_seq ?_
  refine awp_region rfl ?_
  refine wpo_mv (a := (.fptr (c_api_Entry x0) 0)) rfl rfl rfl (o_boxf tk rfl (.of_eq rfl) (b := (e_api_Entry x0)) (enc24.flat _)) ?_
  refine wpo_mv (a := (.fptr (c_api_Entry x1) 0)) rfl rfl rfl (o_boxf tk rfl (.of_eq rfl) (b := (e_api_Entry x1)) (enc24.flat _)) ?_
  refine wpo_mv (a := (eB false)) rfl rfl rfl (o_as tk rfl (Wk.refl _)) ?_
  refine wpo_nil ?_
  refine awp_seq ?_
  refine awp_region rfl ?_
  refine wpo_mv (a := (.fptr (c_api_Entry x0) 0)) rfl rfl rfl (o_c tk false rfl (fun _ => rfl)) ?_
  refine wpo_mv (a := (eS x0.Key)) rfl rfl rfl (o_ld tk rfl rfl) ?_
  refine wpo_mv (a := (.fptr (c_api_Entry x1) 0)) rfl rfl rfl (o_c tk false rfl (fun _ => rfl)) ?_
  refine wpo_mv (a := (eS x1.Key)) rfl rfl rfl (o_ld tk rfl rfl) ?_
  refine wpo_lt H eB rfl rfl rfl (o_eql_s tk rfl rfl) fun v2 H1 => ?_
  refine wpo_mv (a := (eB v2)) rfl rfl rfl (o_mv tk rfl (Wk.refl _)) ?_
  refine if_split H1 (fun hb H3 => ?_) (fun hb H3 => ?_)
  · subst hb
    refine wpo_mv (a := (.fptr (c_api_Entry x0) 1)) rfl rfl rfl (o_c tk false rfl (fun _ => rfl)) ?_
    refine wpo_mv (a := (eI x0.Version)) rfl rfl rfl (o_ld tk rfl rfl) ?_
    refine wpo_mv (a := (.fptr (c_api_Entry x1) 1)) rfl rfl rfl (o_c tk false rfl (fun _ => rfl)) ?_
    refine wpo_mv (a := (eI x1.Version)) rfl rfl rfl (o_ld tk rfl rfl) ?_
    refine wpo_lt H3 eB rfl rfl rfl (o_ar tk rfl rfl rfl) fun v5 H4 => ?_
    refine wpo_mv (a := (eB v5)) rfl rfl rfl (o_pick_t tk rfl rfl (Wk.refl _)) ?_
    refine wpo_mv (a := (eB v5)) rfl rfl rfl (o_mv tk rfl (Wk.refl _)) ?_
    refine if_split H4 (fun hb H6 => ?_) (fun hb H6 => ?_)
    · subst hb
      refine wpo_mv (a := (.fptr (c_api_Entry x0) 2)) rfl rfl rfl (o_c tk false rfl (fun _ => rfl)) ?_
      refine wpo_mv (a := (eI x0.AsOf)) rfl rfl rfl (o_ld tk rfl rfl) ?_
      refine wpo_mv (a := (.fptr (c_api_Entry x1) 2)) rfl rfl rfl (o_c tk false rfl (fun _ => rfl)) ?_
      refine wpo_mv (a := (eI x1.AsOf)) rfl rfl rfl (o_ld tk rfl rfl) ?_
      refine wpo_lt H6 eB rfl rfl rfl (o_ar tk rfl rfl rfl) fun v8 H7 => ?_
      refine wpo_mv (a := (eB v8)) rfl rfl rfl (o_pick_t tk rfl rfl (Wk.refl _)) ?_
      refine wpo_mv (a := (eB v8)) rfl rfl rfl (o_mv tk rfl (Wk.refl _)) ?_
      refine if_split H7 (fun hb H9 => ?_) (fun hb H9 => ?_)
      · subst hb
        refine wpo_mv (a := (.fptr (c_api_Entry x0) 3)) rfl rfl rfl (o_c tk false rfl (fun _ => rfl)) ?_
        refine wpo_mv (a := (eI x0.Ends)) rfl rfl rfl (o_ld tk rfl rfl) ?_
        refine wpo_mv (a := (.fptr (c_api_Entry x1) 3)) rfl rfl rfl (o_c tk false rfl (fun _ => rfl)) ?_
        refine wpo_mv (a := (eI x1.Ends)) rfl rfl rfl (o_ld tk rfl rfl) ?_
        refine wpo_lt H9 eB rfl rfl rfl (o_ar tk rfl rfl rfl) fun v11 H10 => ?_
        refine wpo_mv (a := (eB v11)) rfl rfl rfl (o_pick_t tk rfl rfl (Wk.refl _)) ?_
        refine wpo_mv (a := (eB v11)) rfl rfl rfl (o_mv tk rfl (Wk.refl _)) ?_
        refine if_split H10 (fun hb H12 => ?_) (fun hb H12 => ?_)
        · subst hb
          refine wpo_mv (a := (.fptr (c_api_Entry x0) 4)) rfl rfl rfl (o_c tk false rfl (fun _ => rfl)) ?_
          refine wpo_mv (a := ((eL 1 (@eU .u8 8)) x0.Value)) rfl rfl rfl (o_ld tk rfl rfl) ?_
          refine wpo_mv (a := (.fptr (c_api_Entry x1) 4)) rfl rfl rfl (o_c tk false rfl (fun _ => rfl)) ?_
          refine wpo_mv (a := ((eL 1 (@eU .u8 8)) x1.Value)) rfl rfl rfl (o_ld tk rfl rfl) ?_
          refine wpo_bd H12 eB rfl rfl rfl (fun v14 hv => OpP.of_call rfl rfl (.cons (.of_eq rfl) (.cons (.of_eq rfl) .nil)) (butteryref02_Same_ok hv)) fun v14 hv14 H13 => ?_
          refine wpo_mv (a := (eB v14)) rfl rfl rfl (o_pick_t tk rfl rfl (Wk.refl _)) ?_
          refine wpo_mv (a := (eB v14)) rfl rfl rfl (o_as tk rfl (Wk.refl _)) ?_
          refine wpo_nil ?_
          refine awp_ret ?_
          obtain rfl := Option.some.inj H13
          exact ⟨_, (eB v14), rfl, (.of_eq rfl), .of_eq ((enc_b td4 sz4).cut _ _ _), hH.noT⟩
        · subst hb
          refine wpo_skip rfl rfl rfl ?_
          refine wpo_skip rfl rfl rfl ?_
          refine wpo_skip rfl rfl rfl ?_
          refine wpo_skip rfl rfl rfl ?_
          refine wpo_skip rfl rfl rfl ?_
          refine wpo_mv (a := (eB false)) rfl rfl rfl (o_pick_f tk rfl rfl (Wk.refl _)) ?_
          refine wpo_mv (a := (eB false)) rfl rfl rfl (o_as tk rfl (Wk.refl _)) ?_
          refine wpo_nil ?_
          refine awp_ret ?_
          obtain rfl := Option.some.inj H12
          exact ⟨_, (eB false), rfl, (.of_eq rfl), .of_eq ((enc_b td4 sz4).cut _ _ _), hH.noT⟩
      · subst hb
        refine wpo_skip rfl rfl rfl ?_
        refine wpo_skip rfl rfl rfl ?_
        refine wpo_skip rfl rfl rfl ?_
        refine wpo_skip rfl rfl rfl ?_
        refine wpo_skip rfl rfl rfl ?_
        refine wpo_mv (a := (eB false)) rfl rfl rfl (o_pick_f tk rfl rfl (Wk.refl _)) ?_
        refine wpo_mv (a := (eB false)) rfl rfl rfl (o_mv tk rfl (Wk.refl _)) ?_
        refine wpo_skip rfl rfl rfl ?_
        refine wpo_skip rfl rfl rfl ?_
        refine wpo_skip rfl rfl rfl ?_
        refine wpo_skip rfl rfl rfl ?_
        refine wpo_skip rfl rfl rfl ?_
        refine wpo_mv (a := (eB false)) rfl rfl rfl (o_pick_f tk rfl rfl (Wk.refl _)) ?_
        refine wpo_mv (a := (eB false)) rfl rfl rfl (o_as tk rfl (Wk.refl _)) ?_
        refine wpo_nil ?_
        refine awp_ret ?_
        obtain rfl := Option.some.inj H9
        exact ⟨_, (eB false), rfl, (.of_eq rfl), .of_eq ((enc_b td4 sz4).cut _ _ _), hH.noT⟩
    · subst hb
      refine wpo_skip rfl rfl rfl ?_
      refine wpo_skip rfl rfl rfl ?_
      refine wpo_skip rfl rfl rfl ?_
      refine wpo_skip rfl rfl rfl ?_
      refine wpo_skip rfl rfl rfl ?_
      refine wpo_mv (a := (eB false)) rfl rfl rfl (o_pick_f tk rfl rfl (Wk.refl _)) ?_
      refine wpo_mv (a := (eB false)) rfl rfl rfl (o_mv tk rfl (Wk.refl _)) ?_
      refine wpo_skip rfl rfl rfl ?_
      refine wpo_skip rfl rfl rfl ?_
      refine wpo_skip rfl rfl rfl ?_
      refine wpo_skip rfl rfl rfl ?_
      refine wpo_skip rfl rfl rfl ?_
      refine wpo_mv (a := (eB false)) rfl rfl rfl (o_pick_f tk rfl rfl (Wk.refl _)) ?_
      refine wpo_mv (a := (eB false)) rfl rfl rfl (o_mv tk rfl (Wk.refl _)) ?_
      refine wpo_skip rfl rfl rfl ?_
      refine wpo_skip rfl rfl rfl ?_
      refine wpo_skip rfl rfl rfl ?_
      refine wpo_skip rfl rfl rfl ?_
      refine wpo_skip rfl rfl rfl ?_
      refine wpo_mv (a := (eB false)) rfl rfl rfl (o_pick_f tk rfl rfl (Wk.refl _)) ?_
      refine wpo_mv (a := (eB false)) rfl rfl rfl (o_as tk rfl (Wk.refl _)) ?_
      refine wpo_nil ?_
      refine awp_ret ?_
      obtain rfl := Option.some.inj H6
      exact ⟨_, (eB false), rfl, (.of_eq rfl), .of_eq ((enc_b td4 sz4).cut _ _ _), hH.noT⟩
  · subst hb
    refine wpo_skip rfl rfl rfl ?_
    refine wpo_skip rfl rfl rfl ?_
    refine wpo_skip rfl rfl rfl ?_
    refine wpo_skip rfl rfl rfl ?_
    refine wpo_skip rfl rfl rfl ?_
    refine wpo_mv (a := (eB false)) rfl rfl rfl (o_pick_f tk rfl rfl (Wk.refl _)) ?_
    refine wpo_mv (a := (eB false)) rfl rfl rfl (o_mv tk rfl (Wk.refl _)) ?_
    refine wpo_skip rfl rfl rfl ?_
    refine wpo_skip rfl rfl rfl ?_
    refine wpo_skip rfl rfl rfl ?_
    refine wpo_skip rfl rfl rfl ?_
    refine wpo_skip rfl rfl rfl ?_
    refine wpo_mv (a := (eB false)) rfl rfl rfl (o_pick_f tk rfl rfl (Wk.refl _)) ?_
    refine wpo_mv (a := (eB false)) rfl rfl rfl (o_mv tk rfl (Wk.refl _)) ?_
    refine wpo_skip rfl rfl rfl ?_
    refine wpo_skip rfl rfl rfl ?_
    refine wpo_skip rfl rfl rfl ?_
    refine wpo_skip rfl rfl rfl ?_
    refine wpo_skip rfl rfl rfl ?_
    refine wpo_mv (a := (eB false)) rfl rfl rfl (o_pick_f tk rfl rfl (Wk.refl _)) ?_
    refine wpo_mv (a := (eB false)) rfl rfl rfl (o_mv tk rfl (Wk.refl _)) ?_
    refine wpo_skip rfl rfl rfl ?_
    refine wpo_skip rfl rfl rfl ?_
    refine wpo_skip rfl rfl rfl ?_
    refine wpo_skip rfl rfl rfl ?_
    refine wpo_skip rfl rfl rfl ?_
    refine wpo_mv (a := (eB false)) rfl rfl rfl (o_pick_f tk rfl rfl (Wk.refl _)) ?_
    refine wpo_mv (a := (eB false)) rfl rfl rfl (o_as tk rfl (Wk.refl _)) ?_
    refine wpo_nil ?_
    refine awp_ret ?_
    obtain rfl := Option.some.inj H3
    exact ⟨_, (eB false), rfl, (.of_eq rfl), .of_eq ((enc_b td4 sz4).cut _ _ _), hH.noT⟩
end Go.Proofs.YtkmlinaofbcbaaaDoor
namespace Go.Proofs.YtkmlinaofbcbaaaDoor
open Go Go.Va
set_option linter.unusedVariables false
set_option linter.unusedSimpArgs false
set_option maxRecDepth 20000
theorem butteryref06_SameAll_ok {x0 : List api_Entry} {x1 : List api_Entry} {r : Bool} (H : butteryref06_SameAll x0 x1 = some r) (σ : St)  : ACall Tryd.prog 35 [((eL 5 e_api_Entry) x0), ((eL 5 e_api_Entry) x1)] σ (fun a τ => a = eB r ∧ τ = σ) := by
  unfold butteryref06_SameAll at H
  refine ACall.pure (acall_start tk Tryd.func35 (by decide) rfl (Nat.le_of_ble_eq_true rfl) ?_)
  have hH := Holds.init σ
  refine awp_seq ?_
  refine awp_region rfl ?_
  refine wpo_mv (a := (eB false)) rfl rfl rfl (o_as tk rfl (Wk.refl _)) ?_
  refine wpo_nil ?_
  refine awp_seq ?_
  refine awp_seq ?_
  refine awp_region rfl ?_
  refine wpo_mv (a := ((eL 5 e_api_Entry) x0)) rfl rfl rfl (o_mv tk rfl (Wk.refl _)) ?_
  refine wpo_lt H eI rfl rfl rfl (o_len tk td60 rfl) fun v2 H1 => ?_
  refine wpo_mv (a := ((eL 5 e_api_Entry) x1)) rfl rfl rfl (o_mv tk rfl (Wk.refl _)) ?_
  refine wpo_lt H1 eI rfl rfl rfl (o_len tk td60 rfl) fun v4 H3 => ?_
  refine wpo_lt H3 eB rfl rfl rfl (o_ar tk rfl rfl rfl) fun v6 H5 => ?_
  refine wpo_nil ?_
  refine awp_if H5 rfl (fun H7 => ?_) (fun H7 => ?_)
  · refine awp_seq ?_
    refine awp_region rfl ?_
    refine wpo_mv (a := (eB false)) rfl rfl rfl (o_as tk rfl (Wk.refl _)) ?_
    refine wpo_nil ?_
    refine awp_ret ?_
    obtain rfl := Option.some.inj H7
    exact ⟨_, (eB false), rfl, (.of_eq rfl), .of_eq ((enc_b td4 sz4).cut _ _ _), hH.noT⟩
  · refine awp_skip ?_
    refine awp_seq ?_
    refine awp_seq ?_
    refine awp_region rfl ?_
    refine wpo_mv (a := (eI (0 : Int))) rfl rfl rfl (o_as tk rfl (Wk.refl _)) ?_
    refine wpo_nil ?_
    refine awp_block ?_
    obtain ⟨o9, hs10, hj11⟩ := Option.bind_eq_some_iff.1 H7
    refine awp_cutx 0 (fun fr τ => ∃ s16 : Unit, o9 = .inl s16 ∧ WkF fr (fm []) ∧ Holds σ [] [] τ) ?_ ?_
    · rintro fr τ ⟨s16, rfl, hfr, hH⟩
      have H35 := hj11
      simp only [Sum.elim_inl] at H35
      refine AWP.fm [] hfr ?_
      refine awp_seq ?_
      refine awp_region rfl ?_
      refine wpo_mv (a := (eB true)) rfl rfl rfl (o_as tk rfl (Wk.refl _)) ?_
      refine wpo_nil ?_
      refine awp_ret ?_
      obtain rfl := Option.some.inj H35
      exact ⟨_, (eB true), rfl, (.of_eq rfl), .of_eq ((enc_b td4 sz4).cut _ _ _), hH.noT⟩
    · refine awp_loopO (body := fun s => butteryref06_SameAll_b0 x0 x1 s) hs10 (fun (s : Int) fr τ => WkF fr (fm [(0, ((eL 5 e_api_Entry) x0)), (1, ((eL 5 e_api_Entry) x1)), (5, (eI s))]) ∧ Holds σ [] [] τ) ⟨(wkf_cons (.of_eq rfl) (wkf_cons (.of_eq rfl) (wkf_cons (.of_eq rfl) (wkf_nil _)))), hH⟩ ?_
      rintro c8 fr τ y12 ⟨hfr, hH⟩ hb14 hy15
      have H17 : butteryref06_SameAll_b0 x0 x1 c8 = some y12 := hb14
      unfold butteryref06_SameAll_b0 at H17
      refine AWP.fm [(0, ((eL 5 e_api_Entry) x0)), (1, ((eL 5 e_api_Entry) x1)), (5, (eI c8))] hfr ?_
      have hH : Holds σ [] [] τ := hH
      refine awp_seq ?_
      refine awp_seq ?_
      refine awp_region rfl ?_
      refine wpo_mv (a := (eI c8)) rfl rfl rfl (o_mv tk rfl (Wk.refl _)) ?_
      refine wpo_mv (a := ((eL 5 e_api_Entry) x0)) rfl rfl rfl (o_mv tk rfl (Wk.refl _)) ?_
      refine wpo_lt H17 eI rfl rfl rfl (o_len tk td60 rfl) fun v19 H18 => ?_
      refine wpo_lt H18 eB rfl rfl rfl (o_ar tk rfl rfl rfl) fun v21 H20 => ?_
      refine wpo_nil ?_
      refine awp_if H20 rfl (fun H22 => ?_) (fun H22 => ?_)
      · refine awp_skip ?_
        refine awp_seq ?_
        refine awp_block ?_
        refine awp_seq ?_
        refine awp_drawS mixed [] rfl (by decide +kernel) rfl rfl ?_
        refine wpdS_mv (a := ((eL 5 e_api_Entry) x0)) rfl rfl rfl (o_mv tk rfl (Wk.refl _)) ?_
        refine wpdS_mv (a := (eI c8)) rfl rfl rfl (o_mv tk rfl (Wk.refl _)) ?_
        refine wpdS_bd H22 (fun y => .fptr (e_api_Entry y).cells 0) rfl rfl rfl (fun v24 hv => o_ixa tk hv td60 enc24 rfl rfl) fun v24 hv24 H23 => ?_
        refine wpdS_mv (a := (e_api_Entry v24)) rfl rfl rfl (o_ld_e tk enc24 rfl rfl) ?_
        refine wpdS_mv (a := ((eL 5 e_api_Entry) x1)) rfl rfl rfl (o_mv tk rfl (Wk.refl _)) ?_
        refine wpdS_mv (a := (eI c8)) rfl rfl rfl (o_mv tk rfl (Wk.refl _)) ?_
        refine wpdS_bd H23 (fun y => .fptr (e_api_Entry y).cells 0) rfl rfl rfl (fun v26 hv => o_ixa tk hv td60 enc24 rfl rfl) fun v26 hv26 H25 => ?_
        refine wpdS_mv (a := (e_api_Entry v26)) rfl rfl rfl (o_ld_e tk enc24 rfl rfl) ?_
        refine wpdS_bd H25 eB rfl rfl rfl (fun v28 hv => OpP.of_call rfl rfl (.cons (.of_eq rfl) (.cons (.of_eq rfl) .nil)) (butteryref06_Same_ok hv)) fun v28 hv28 H27 => ?_
        refine wpdS_lt H27 eB rfl rfl rfl (o_un tk rfl rfl) fun v30 H29 => ?_
        refine wpdS_nil ?_
        refine awp_if H29 rfl (fun H31 => ?_) (fun H31 => ?_)
        · refine awp_seq ?_
          refine awp_region rfl ?_
          refine wpo_mv (a := (eB false)) rfl rfl rfl (o_as tk rfl (Wk.refl _)) ?_
          refine wpo_nil ?_
          refine awp_ret ?_
          have hz := hy15 _ (inj_inr H31)
          refine ⟨⟨_, inj_inr H31⟩, ?_⟩
          rw [← hz] at hj11
          have H32 := (show some _ = some _ from hj11)
          obtain rfl := Option.some.inj H32
          exact ⟨_, (eB false), rfl, (.of_eq rfl), .of_eq ((enc_b td4 sz4).cut _ _ _), hH.noT⟩
        · refine awp_skip ?_
          refine awp_region rfl ?_
          refine wpo_mv (a := (eI c8)) rfl rfl rfl (o_mv tk rfl (Wk.refl _)) ?_
          refine wpo_lt H31 eI rfl rfl rfl (o_ar tk rfl rfl rfl) fun v34 H33 => ?_
          refine wpo_mv (a := (eI v34)) rfl rfl rfl (o_as tk rfl (Wk.refl _)) ?_
          refine wpo_nil ?_
          exact ⟨v34, inj_inl H33, (wkf_cons (.of_eq rfl) (wkf_cons (.of_eq rfl) (wkf_cons (.of_eq rfl) (wkf_nil _)))), hH⟩
      · refine awp_exit ?_
        have hz := hy15 _ (inj_inr H22)
        exact ⟨⟨_, inj_inr H22⟩, (), hz.symm, (wkf_nil _), hH⟩
end Go.Proofs.YtkmlinaofbcbaaaDoor
namespace Go.Proofs.YtkmlinaofbcbaaaDoor
open Go Go.Va
set_option linter.unusedVariables false
set_option linter.unusedSimpArgs false
set_option maxRecDepth 20000
theorem trouble_Of_ok {x0 : Err} {r : Int} (H : trouble_Of x0 = some r) (σ : St) (hg : σ.gl = gls) : ACall Tryd.prog 17 [eErr x0] σ (fun a τ => a = eI r ∧ τ = σ) := by
  obtain rfl := Option.some.inj H
  refine ACall.pure (acall_start tk Tryd.func17 (by decide) rfl (Nat.le_of_ble_eq_true rfl) ?_)
  have hH := Holds.init σ
  refine awp_seq ?_
  refine awp_region rfl ?_
  refine wpo_mv (a := (eI (0 : Int))) rfl rfl rfl (o_as tk rfl (Wk.refl _)) ?_
  refine wpo_nil ?_
  refine awp_seq ?_
  refine awp_block ?_
  have hs := trouble_Of_l0 x0
  refine awp_cutx 0 (fun fr τ => codeOf x0 = 0 ∧ WkF fr (fm []) ∧ Holds σ [] [] τ) ?_ ?_
  · rintro fr τ ⟨h0, hfr, hH⟩
    refine AWP.fm [] hfr ?_
    refine awp_seq ?_
    refine awp_region rfl ?_
    refine wpo_mv (a := (eI 0)) rfl rfl rfl (o_as tk rfl (Wk.refl _)) ?_
    refine wpo_nil ?_
    refine awp_ret ?_
    rw [h0]
    exact ⟨_, (eI 0), rfl, (.of_eq rfl), .of_eq rfl, hH.noT⟩
  · refine awp_loopO (body := trouble_Of_b0) hs (fun (s : Err) fr τ => WkF fr (fm [(0, eErr s)]) ∧ Holds σ [] [] τ) ⟨(wkf_cons (.of_eq rfl) (wkf_nil _)), hH⟩ ?_
    rintro c1 fr τ y ⟨hfr, hH⟩ hb hy
    refine AWP.fm [(0, eErr c1)] hfr ?_
    cases c1 with
    | nil =>
      refine awp_seq ?_
      refine awp_seq ?_
      refine awp_region rfl ?_
      refine wpo_mv (a := eErr .nil) rfl rfl rfl (o_mv tk rfl (Wk.refl _)) ?_
      refine wpo_mv (a := eB false) rfl rfl rfl (o_err_neq (x := .nil) tk rfl rfl rfl) ?_
      refine wpo_nil ?_
      refine awp_false rfl ?_
      refine awp_exit ?_
      have hb : some (Sum.inr (Sum.inl ())) = some y := hb
      have hz := hy _ (Option.some.inj hb).symm
      refine ⟨⟨_, (Option.some.inj hb).symm⟩, ?_, (wkf_nil _), hH⟩
      split at hz
      · assumption
      · cases hz
    | fault o a c u =>
      refine awp_seq ?_
      refine awp_seq ?_
      refine awp_region rfl ?_
      refine wpo_mv (a := eErr (.fault o a c u)) rfl rfl rfl (o_mv tk rfl (Wk.refl _)) ?_
      refine wpo_mv (a := eB true) rfl rfl rfl (o_err_neq (x := .fault o a c u) tk rfl rfl rfl) ?_
      refine wpo_nil ?_
      refine awp_true rfl ?_
      refine awp_skip ?_
      refine awp_block ?_
      refine awp_seq ?_
      refine awp_region rfl ?_
      refine wpo_a (av := fun id => .ref id 0) rfl rfl rfl (h_alloc tk hH ty109 [.nilp] rfl) fun id τ ⟨hH, hn⟩ => ?_
      refine wpo_nil ?_
      refine awp_seq ?_
      refine awp_seq ?_
      refine awp_region rfl ?_
      refine wpo_mv (a := eErr (.fault o a c u)) rfl rfl rfl (o_mv tk rfl (Wk.refl _)) ?_
      refine wpo_mv (a := .iface 111 (.ref id 0)) rfl rfl rfl (o_c tk false rfl (fun _ => rfl)) ?_
      refine wpo_cb (α := Unit) (z := some ()) (k := fun _ => some ()) (r := ()) rfl (fun _ _ => eB true) rfl rfl rfl (fun v hv => h_call1 hH [(0, (id, [(Err.fault o a c u).ptr]))] ⟨⟨_, rfl⟩, trivial⟩ rfl rfl (.cons (.of_eq rfl) (.cons (.of_eq rfl) .nil)) (as_ok (x := .fault o a c u) rfl (hH.at_ 0 rfl) (hH.gl.trans hg))) fun _ _ τ _ _ hH => ?_
      refine wpo_mv (a := eB false) rfl rfl rfl (o_un tk rfl rfl) ?_
      refine wpo_nil ?_
      refine awp_false rfl ?_
      refine awp_skip ?_
      refine awp_seq ?_
      refine awp_seq ?_
      refine awp_region rfl ?_
      refine wpo_rd (a := (Err.fault o a c u).ptr) rfl rfl rfl (h_ld tk hH 0 rfl rfl rfl) ?_
      refine wpo_mv (a := (Err.fault o a c u).ptr) rfl rfl rfl (o_c tk false rfl (fun _ => rfl)) ?_
      refine wpo_mv (a := .fptr [eS o, eI a, eI c, eErr u] 2) rfl rfl rfl (o_c tk false rfl (fun _ => rfl)) ?_
      refine wpo_mv (a := eI c) rfl rfl rfl (o_ld tk rfl rfl) ?_
      refine wpo_mv (a := eB (c != 0)) rfl rfl rfl (o_ar tk rfl rfl rfl) ?_
      refine wpo_nil ?_
      have hb : (if (c != 0) = true then some (.inr (.inr c)) else some (.inl u)) = some y := hb
      refine awp_if hb rfl (fun hb => ?_) (fun hb => ?_)
      · refine awp_seq ?_
        refine awp_region rfl ?_
        refine wpo_rd (a := (Err.fault o a c u).ptr) rfl rfl rfl (h_ld tk hH 0 rfl rfl rfl) ?_
        refine wpo_mv (a := (Err.fault o a c u).ptr) rfl rfl rfl (o_c tk false rfl (fun _ => rfl)) ?_
        refine wpo_mv (a := .fptr [eS o, eI a, eI c, eErr u] 2) rfl rfl rfl (o_c tk false rfl (fun _ => rfl)) ?_
        refine wpo_mv (a := eI c) rfl rfl rfl (o_ld tk rfl rfl) ?_
        refine wpo_mv (a := eI c) rfl rfl rfl (o_as tk rfl (Wk.refl _)) ?_
        refine wpo_nil ?_
        refine awp_ret ?_
        have hz := hy _ (Option.some.inj hb).symm
        refine ⟨⟨_, (Option.some.inj hb).symm⟩, ?_⟩
        have hc : codeOf x0 = c := by
          split at hz
          · cases hz
          · exact Sum.inr.inj hz.symm
        rw [hc]
        exact ⟨_, (eI c), rfl, (.of_eq rfl), .of_eq rfl, (hH.noT.drop hn)⟩
      · refine awp_skip ?_
        refine awp_region rfl ?_
        refine wpo_rd (a := (Err.fault o a c u).ptr) rfl rfl rfl (h_ld tk hH 0 rfl rfl rfl) ?_
        refine wpo_mv (a := (Err.fault o a c u).ptr) rfl rfl rfl (o_c tk false rfl (fun _ => rfl)) ?_
        refine wpo_mv (a := .fptr [eS o, eI a, eI c, eErr u] 3) rfl rfl rfl (o_c tk false rfl (fun _ => rfl)) ?_
        refine wpo_mv (a := eErr u) rfl rfl rfl (o_ld tk rfl (by cases u <;> rfl)) ?_
        refine wpo_mv (a := eErr u) rfl rfl rfl (o_as tk rfl (Wk.refl _)) ?_
        refine wpo_nil ?_
        exact ⟨u, (Option.some.inj hb).symm, (wkf_cons (.of_eq rfl) (wkf_nil _)), hH.drop hn⟩
end Go.Proofs.YtkmlinaofbcbaaaDoor
