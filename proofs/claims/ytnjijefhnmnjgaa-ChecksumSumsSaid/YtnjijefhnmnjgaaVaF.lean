/- Variables, fields, elements. -/
import Derived.Test.YtnjijefhnmnjgaaVaE
namespace Go.Va
open Go Go.RowKit
set_option linter.unusedVariables false
set_option linter.unusedSimpArgs false

def isAggTD : TD → Bool
  | .struct _ => true
  | .arr _ _ => true
  | _ => false
/-- A value out of cells. -/
def acut (Ty : TypeId → Option TI) (T : TypeId) (cells : List AV) (off : Nat) : Option AV :=
  match Ty T with
  | some i => if isAggTD i.d then (if off + i.sz ≤ cells.length then some (.agg ((cells.drop off).take i.sz)) else none) else cells[off]?
  | none => none
/-- The cells behind an address. -/
def acells (σ : St) : AV → Option (List AV × Nat)
  | .ref id off => match σ.objs[id]? with | some c => some (c, off) | none => none
  | .fptr x off => some (x, off)
  | _ => none

theorem mkAgg {G : Ghost} {vs : Array Value} {as : List AV} (h : RelL G vs.toList as) : Rel G (.agg vs) (.agg as) :=
  .agg vs as (by simpa using h.len) (fun i v a h1 h2 => h.at_ i v a (by simpa using h1) h2)
section
variable {P : Program} {Ty : TypeId → Option TI} {w0 : World} {G : Ghost} {w : World} {σ : St}

theorem isAgg_run (hT : TyOk P Ty) {T : TypeId} {i : TI} (h : Ty T = some i) (w : World) : (isAgg T).run P w = .ok (isAggTD i.d) w := by
  have := (hT T i h).d
  cases hd : i.d <;> rw [hd] at this <;> simp only [TdOk] at this
  case struct fs => obtain ⟨f, h1, _⟩ := this; simp [isAgg, run_underlying h1, isAggTD]
  case iface => obtain ⟨f, h1⟩ := this; simp [isAgg, run_underlying h1, isAggTD]
  case func => obtain ⟨p, r, v, h1⟩ := this; simp [isAgg, run_underlying h1, isAggTD]
  all_goals simp [isAgg, run_underlying this, isAggTD]
theorem sizeOf_run (hT : TyOk P Ty) {T : TypeId} {i : TI} (h : Ty T = some i) (w : World) : (Go.sizeOf T).run P w = .ok i.sz w := by
  obtain ⟨ti, z, h1, h2, _⟩ := (hT T i h).info
  simp [Go.sizeOf, typeInfo, h1, h2]
theorem zero_run (hT : TyOk P Ty) {T : TypeId} {i : TI} (h : Ty T = some i) (w : World) : ∃ z, (zeroValue T).run P w = .ok z w ∧ (∀ G, RelL G z.cells.toList i.zero.cells) ∧ (∀ v ∈ z.cells.toList, v.oneCell' = true) ∧ z.cells.size = i.sz := by
  obtain ⟨ti, z, h1, h2, h3, h4, h5, h6, h7, h8⟩ := (hT T i h).info
  refine ⟨z, by simp [zeroValue, typeInfo, h1, h4], h5, fun v hv => ?_, h6⟩
  rw [Array.all_eq_true_iff_forall_mem] at h8
  exact h8 v (Array.mem_toList_iff.1 hv)

theorem addr_cells (hI : Inv w0 G w σ) {x : AV} {vx : Value} (hx : Rel G vx x) {cells : List AV} {off : Nat} (h : acells σ x = some (cells, off)) :
    ∃ b base news, vx = .pointer (some ⟨b, base + off, none⟩) ∧ RelL G news cells ∧ ∀ (j : Nat) (u : Value), news[j]? = some u → w.cell? ⟨b, base + j, none⟩ = some u ∧ u.oneCell' = true := by
  unfold acells at h
  split at h
  · split at h
    case h_2 => cases h
    rename_i c hc
    simp at h
    obtain ⟨rfl, rfl⟩ := h
    cases hx
    rename_i b hl
    obtain ⟨b', T, vs, k1, k2, k3, k4, k5⟩ := hI.loc _ _ hc
    rw [hl] at k1
    injection k1 with k1
    subst k1
    refine ⟨b, 0, vs.toList, by rw [Nat.zero_add], k4, fun j u hu => ⟨?_, k5 u (List.mem_iff_getElem?.2 ⟨j, hu⟩)⟩⟩
    rw [Nat.zero_add, cell_of_row _ _ _ vs T (0, 0) k3]
    simpa using hu
  · simp at h
    obtain ⟨rfl, rfl⟩ := h
    cases hx
    rename_i x off b o val hf hr
    refine ⟨b, o, (List.range x.length).map val, rfl, ⟨by simp, fun j u a h1 h2 => ?_⟩, fun j u hu => ?_⟩
    · rw [List.getElem?_map] at h1
      simp only [Option.map_eq_some_iff] at h1
      obtain ⟨j', hj, rfl⟩ := h1
      obtain ⟨_, he⟩ := List.getElem?_eq_some_iff.1 hj
      simp at he
      subst he
      exact hr j a h2
    · rw [List.getElem?_map] at hu
      simp only [Option.map_eq_some_iff] at hu
      obtain ⟨j', hj, rfl⟩ := hu
      obtain ⟨hlt, he⟩ := List.getElem?_eq_some_iff.1 hj
      simp at he hlt
      subst he
      exact hI.fz b (o + j) _ (hf j _ (List.getElem?_eq_getElem hlt))
  · cases h

theorem acut_load (hT : TyOk P Ty) {T : TypeId} {cells : List AV} {off : Nat} {a : AV} (h : acut Ty T cells off = some a) {news : List Value} (hr : RelL G news cells) {b base : Nat}
    (hc : ∀ (j : Nat) (u : Value), news[j]? = some u → w.cell? ⟨b, base + j, none⟩ = some u ∧ u.oneCell' = true) : ∃ v, (loadVar T ⟨b, base + off, none⟩).run P w = .ok v w ∧ Rel G v a := by
  unfold acut at h
  split at h
  case h_2 => cases h
  rename_i i hi
  have hA := isAgg_run (P := P) hT hi w
  have hS := sizeOf_run (P := P) hT hi w
  split at h
  · rename_i hag
    split at h
    case isFalse => cases h
    rename_i hle
    simp at h
    subst h
    have hnl := hr.len
    have hload := run_loadCells_list (P := P) (w := w) ⟨b, base + off, none⟩ ((news.drop off).take i.sz) (fun j v hv => by
      rw [Addr.add_lit, Nat.add_assoc]
      rw [List.getElem?_take] at hv
      split at hv
      · rw [List.getElem?_drop] at hv; exact (hc _ _ hv).1
      · cases hv)
    rw [show ((news.drop off).take i.sz).length = i.sz by simp; omega] at hload
    refine ⟨.agg ((news.drop off).take i.sz).toArray, ?_, ?_⟩
    · simp [loadVar, hA, hag, hS, hload]
    · exact mkAgg (by simpa using (hr.drop off).take i.sz)
  · rename_i hag
    obtain ⟨u, hu, hru⟩ := hr.get h
    refine ⟨u, ?_, hru⟩
    have hag' : isAggTD i.d = false := by simpa using hag
    simp [loadVar, hA, hag', Go.load, Sem.run, (hc off u hu).1]

def aload (Ty : TypeId → Option TI) (T : TypeId) (x : AV) (σ : St) : Option AV :=
  match acells σ x with
  | some (cells, off) => acut Ty T cells off
  | none => none
theorem aload_sound (hT : TyOk P Ty) (hI : Inv w0 G w σ) {T : TypeId} {x : AV} {vx : Value} (hx : Rel G vx x) {a : AV} (h : aload Ty T x σ = some a) : ∃ v, (Instr.loadAt T vx).run P w = .ok v w ∧ Rel G v a := by
  unfold aload at h
  split at h
  case h_2 => cases h
  rename_i cells off hc
  obtain ⟨b, base, news, rfl, hr, hcell⟩ := addr_cells hI hx hc
  obtain ⟨v, h1, h2⟩ := acut_load hT h hr hcell
  exact ⟨v, by simpa [Instr.loadAt, Instr.sureAddr] using h1, h2⟩

/-- A part of a value. -/
theorem acut_part (hT : TyOk P Ty) {T : TypeId} {cells : List AV} {off : Nat} {a : AV} (h : acut Ty T cells off = some a) {cs : Array Value} (hr : RelL G cs.toList cells) : ∃ v, (part T cs off).run P w = .ok v w ∧ Rel G v a := by
  unfold acut at h
  split at h
  case h_2 => cases h
  rename_i i hi
  have hA := isAgg_run (P := P) hT hi w
  have hS := sizeOf_run (P := P) hT hi w
  split at h
  · rename_i hag
    split at h
    case isFalse => cases h
    rename_i hle
    simp at h
    subst h
    refine ⟨.agg (cs.extract off (off + i.sz)), ?_, ?_⟩
    · simp [part, hA, hag, hS]
    · have he : (cs.extract off (off + i.sz)).toList = (cs.toList.drop off).take i.sz := by simp [List.take_drop]
      exact mkAgg (by rw [he]; exact (hr.drop off).take i.sz)
  · rename_i hag
    obtain ⟨u, hu, hru⟩ := hr.get h
    have hag' : isAggTD i.d = false := by simpa using hag
    have hu' : cs[off]? = some u := by simpa using hu
    exact ⟨u, by simp [part, hA, hag', hu'], hru⟩

/-- Cells written into cells. -/
def repl (cells : List AV) (off : Nat) (new : List AV) : List AV := cells.take off ++ new ++ cells.drop (off + new.length)
/-- One cell, and known. -/
def flatAV : AV → Bool
  | .junk => false
  | .agg _ => false
  | .tup _ => false
  | _ => true
theorem rel_flat {G : Ghost} {v : Value} {a : AV} (h : Rel G v a) (hf : flatAV a = true) : v.oneCell' = true := by
  cases h <;> first | rfl | (simp [flatAV] at hf)
theorem cells_flat {G : Ghost} {v : Value} {a : AV} (h : Rel G v a) (hf : a.cells.all flatAV = true) : RelL G v.cells.toList a.cells ∧ ∀ u ∈ v.cells.toList, u.oneCell' = true := by
  have hj : a ≠ .junk := by rintro rfl; simp [AV.cells, flatAV] at hf
  have hr := rel_cells h hj
  refine ⟨hr, fun u hu => ?_⟩
  obtain ⟨j, hj⟩ := List.mem_iff_getElem?.1 hu
  have hlt : j < a.cells.length := by rw [← hr.len]; exact (List.getElem?_eq_some_iff.1 hj).1
  rw [List.all_eq_true] at hf
  exact rel_flat (hr.at_ j u _ hj (List.getElem?_eq_getElem hlt)) (hf _ (List.getElem_mem hlt))
def astore (Ty : TypeId → Option TI) (T : TypeId) (x y : AV) (σ : St) : Option St :=
  match x, Ty T with
  | .ref id off, some i => match σ.objs[id]? with
    | some cells => if y.cells.all flatAV = true ∧ y.cells.length = i.sz ∧ off + i.sz ≤ cells.length then some ⟨σ.objs.set id (repl cells off y.cells), σ.opn⟩ else none
    | none => none
  | _, _ => none

theorem setRow_size (w : World) (g : Nat) (cs : Array Value) : (w.setRow g cs).heap.size = w.heap.size := by simp [World.setRow]
theorem setRow_below {B : Nat} {a w : World} (h : Below B a w) {b : Nat} (hb : B ≤ b) (cs : Array Value) : Below B a (w.setRow b cs) :=
  h.trans ⟨rfl, rfl, rfl, by rw [setRow_size]; exact Nat.le_refl _, fun k hk => setRow_other w b k cs (by omega)⟩
/-- A variable's cells are turned. -/
theorem Inv.set_loc (h : Inv w0 G w σ) {id b : Nat} {T : TypeId} {vs new : Array Value} {cells : List AV} (hl : G.loc id = some b) (hb : w0.heap.size ≤ b) (hg : w.heap[b]? = some (.cells vs T (0, 0))) (hr : RelL G new.toList cells) (h1 : ∀ v ∈ new.toList, v.oneCell' = true) :
    Inv w0 G (w.setRow b new) ⟨σ.objs.set id cells, σ.opn⟩ := by
  have hfar : ∀ x o v, G.fz x o = some v → x ≠ b := fun x o v hf he => by rw [he, h.locfz id b o hl] at hf; cases hf
  refine ⟨setRow_below h.below hb new, fun x o v hf => ⟨?_, (h.fz x o v hf).2⟩, fun id' c hc => ?_, h.locfz, fun i x hi => by simpa using h.locdom i x hi, h.locinj, fun t x top en ho ht => ?_, h.tokdom, h.tokinj, h.nt, fun b hb => by
    obtain ⟨k1, k2, k3, k4⟩ := h.lit b hb
    exact ⟨k1, by rw [setRow_size]; exact k2, k3, k4⟩⟩
  · rw [cell_setRow_other w b new ⟨x, o, none⟩ (hfar x o v hf)]
    exact (h.fz x o v hf).1
  · rw [List.getElem?_set] at hc
    split at hc
    · rename_i he
      subst he
      split at hc
      · simp at hc
        subst hc
        exact ⟨b, T, new, hl, hb, setRow_heap w b vs new T (0, 0) hg, hr, h1⟩
      · cases hc
    · rename_i he
      obtain ⟨b', T', vs', k1, k2, k3, k4, k5⟩ := h.loc id' c hc
      have hne : b' ≠ b := fun hb' => he (h.locinj id id' b hl (hb' ▸ k1))
      exact ⟨b', T', vs', k1, k2, (setRow_other w b b' new hne).trans k3, k4, k5⟩
  · obtain ⟨e1, ⟨cs, T', e2, e3⟩, e4, e5⟩ := h.tok t x top en ho ht
    have hne : x ≠ b := fun he => e5 id (he ▸ hl)
    exact ⟨e1, ⟨cs, T', (setRow_other w b x new hne).trans e2, e3⟩, e4, e5⟩
theorem repl_rel {vs new : List Value} {cells nc : List AV} (h : RelL G vs cells) (k : RelL G new nc) (off : Nat) : RelL G (vs.take off ++ new ++ vs.drop (off + new.length)) (repl cells off nc) := by
  unfold repl
  rw [← k.len]
  exact ((h.take off).append k).append (h.drop _)
theorem astore_sound (hT : TyOk P Ty) (hI : Inv w0 G w σ) {T : TypeId} {x y : AV} {vx vy : Value} (hx : Rel G vx x) (hy : Rel G vy y) {σ' : St} (h : astore Ty T x y σ = some σ') :
    ∃ w', (Instr.storeAt T vx vy).run P w = .ok () w' ∧ Inv w0 G w' σ' := by
  unfold astore at h
  split at h
  case h_2 => cases h
  rename_i id off i hi
  split at h
  case h_2 => cases h
  rename_i cells hc
  split at h
  case isFalse => cases h
  rename_i hcond
  obtain ⟨hj, hlen, hle⟩ := hcond
  simp at h
  subst h
  cases hx
  rename_i b hl
  obtain ⟨b', T', vs, k1, k2, k3, k4, k5⟩ := hI.loc _ _ hc
  rw [hl] at k1
  injection k1 with k1
  subst k1
  obtain ⟨hyc, h1⟩ := cells_flat hy hj
  have hvl : vs.size = cells.length := by simpa using k4.len
  have hyl : vy.cells.toList.length = i.sz := by rw [hyc.len, hlen]
  have hS := sizeOf_run (P := P) hT hi w
  have hst := run_storeCells_at P b off T' vy.cells.toList 0 vs w k3 (by omega) h1
  simp only [Nat.add_zero] at hst
  refine ⟨_, ?_, hI.set_loc hl k2 k3 (new := (vs.toList.take off ++ vy.cells.toList ++ vs.toList.drop (off + vy.cells.toList.length)).toArray) ?_ ?_⟩
  · have hsz : vy.cells.size = i.sz := by simpa using hyl
    simp only [Instr.storeAt, Instr.sureAddr, storeVar]
    simp only [Sem.run_bind, Sem.run_pure, Result.andThen, hS]
    rw [if_neg (by simp [hsz])]
    exact hst
  · simpa using repl_rel k4 hyc off
  · intro v hv
    simp only [List.toList_toArray, List.mem_append] at hv
    rcases hv with (hv | hv) | hv
    · exact k5 v (List.mem_of_mem_take hv)
    · exact h1 v hv
    · exact k5 v (List.mem_of_mem_drop hv)
end
end Go.Va
