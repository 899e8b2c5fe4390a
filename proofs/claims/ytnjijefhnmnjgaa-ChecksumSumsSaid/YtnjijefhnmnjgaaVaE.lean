/- append. -/
import Derived.Test.YtnjijefhnmnjgaaVaD
namespace Go.Va
open Go Go.RowKit
set_option linter.unusedVariables false
set_option linter.unusedSimpArgs false

theorem setCells_other (b : Nat) : ∀ (vs : List Value) (o : Nat) (w : World) (k : Nat), k ≠ b → (w.setCells b o vs).heap[k]? = w.heap[k]?
  | [], _, _, _, _ => rfl
  | v :: vs, o, w, k, h => by
    rw [World.setCells, setCells_other b vs (o + 1) _ k h]
    exact heap_setCell_other w ⟨b, o, none⟩ k v h
theorem setCells_same (b : Nat) {T : TypeId} : ∀ (vs : List Value) (o : Nat) (w : World) (cs : Array Value), w.heap[b]? = some (.cells cs T (0, 0)) → ∃ cs', (w.setCells b o vs).heap[b]? = some (.cells cs' T (0, 0)) ∧ cs'.size = cs.size
  | [], _, _, cs, h => ⟨cs, h, rfl⟩
  | v :: vs, o, w, cs, h => by
    obtain ⟨cs', h1, h2⟩ := setCells_same b vs (o + 1) (w.setCell ⟨b, o, none⟩ v) _ (heap_setCell_same w b o cs T v h)
    exact ⟨cs', h1, by rw [h2]; simp⟩
theorem setCells_size (b : Nat) : ∀ (vs : List Value) (o : Nat) (w : World), (w.setCells b o vs).heap.size = w.heap.size
  | [], _, _ => rfl
  | v :: vs, o, w => by rw [World.setCells, setCells_size b vs]; simp
theorem setCells_below {B : Nat} {a : World} (b : Nat) (hb : B ≤ b) : ∀ (vs : List Value) (o : Nat) (w : World), Below B a w → Below B a (w.setCells b o vs)
  | [], _, _, h => h
  | v :: vs, o, w, h => setCells_below b hb vs (o + 1) _ (h.setCell hb v)

theorem Inv.sub {w0 : World} {G : Ghost} {w : World} {σ σ' : St} (h : Inv w0 G w σ) (ho : σ'.objs = σ.objs) (hl : σ.opn.length ≤ σ'.opn.length) (ht : ∀ t, σ'.opn[t]? = some true → σ.opn[t]? = some true ∨ G.tok t = none) : Inv w0 G w σ' := by
  obtain ⟨ob, op⟩ := σ'
  simp only at ho
  subst ho
  have key : ∀ t x, op[t]? = some true → G.tok t = some x → σ.opn[t]? = some true := fun t x h1 h2 => (ht t h1).resolve_right (by rw [h2]; simp)
  exact ⟨h.below, h.fz, h.loc, h.locfz, h.locdom, h.locinj, fun t b top en h1 h2 => h.tok t b top en (key t _ h1 h2) h2, fun t x hx => Nat.lt_of_lt_of_le (h.tokdom t x hx) hl,
    fun t t' x x' h1 h2 h3 h4 h5 => h.tokinj t t' x x' (key t _ h1 h3) (key t' _ h2 h4) h3 h4 h5, Nat.le_trans h.nt hl, fun b hb => ⟨(h.lit b hb).1, (h.lit b hb).2.1, (h.lit b hb).2.2.1, fun t x ho htk => (h.lit b hb).2.2.2 t x (key t x ho htk) htk⟩⟩

def Ghost.addIn (G : Ghost) (b top : Nat) (news : List Value) (t : Nat) (en : Nat) : Ghost :=
  { G with fz := fun x o => if x = b ∧ top ≤ o ∧ o < top + news.length then news[o - top]? else G.fz x o, tok := fun i => if i = t then some (b, top + news.length, en) else G.tok i, nt := t + 1 }
theorem Inv.append_in {w0 : World} {G : Ghost} {w : World} {σ : St} (h : Inv w0 G w σ) {t b top en : Nat} (ho : σ.opn[t]? = some true) (hg : G.tok t = some (b, top, en)) (news : List Value) (h1 : ∀ v ∈ news, v.oneCell' = true) (hfit : top + news.length ≤ en) :
    G.Le (G.addIn b top news σ.opn.length en) ∧ Inv w0 (G.addIn b top news σ.opn.length en) (w.setCells b top news) ⟨σ.objs, σ.opn.set t false ++ [true]⟩ := by
  obtain ⟨e1, ⟨cs, T, e2, e3⟩, e4, e5⟩ := h.tok t b top en ho hg
  have htn : ∀ t x, G.tok t = some x → t ≠ σ.opn.length := fun t x ht => by have := h.tokdom t x ht; omega
  have hle : G.Le (G.addIn b top news σ.opn.length en) :=
    ⟨fun x o v hf => by
      simp only [Ghost.addIn]
      rw [if_neg (fun ⟨hx, ho, _⟩ => by subst hx; rw [e4 o ho] at hf; cases hf)]
      exact hf, fun _ _ h => h, fun t x ht => by simp [Ghost.addIn, htn t x ht, ht], by simp only [Ghost.addIn]; have := h.nt; omega, fun _ h => h⟩
  have hthere : ∀ j, j < news.length → (w.cell? ⟨b, top + j, none⟩).isSome = true := fun j hj => by
    rw [cell_of_row _ _ _ cs T (0, 0) e2, Array.getElem?_eq_getElem (by omega)]; rfl
  obtain ⟨cs', e6, e7⟩ := setCells_same b news top w cs e2
  have htokc : ∀ t' x, (σ.opn.set t false ++ [true])[t']? = some true → (G.addIn b top news σ.opn.length en).tok t' = some x → (t' = σ.opn.length ∧ x = (b, top + news.length, en)) ∨ (t' ≠ t ∧ σ.opn[t']? = some true ∧ G.tok t' = some x ∧ x.1 ≠ b) := by
    intro t' x ho' ht'
    simp only [Ghost.addIn] at ht'
    split at ht'
    · rename_i he
      injection ht' with ht'
      exact .inl ⟨he, ht'.symm⟩
    · have hlt := h.tokdom t' x ht'
      rw [List.getElem?_append_left (by simpa using hlt), List.getElem?_set] at ho'
      by_cases htt : t = t'
      · subst htt; simp [hlt] at ho'
      · simp only [htt, if_false] at ho'
        refine .inr ⟨Ne.symm htt, ho', ht', fun hb => ?_⟩
        exact htt (h.tokinj t t' _ x ho ho' hg ht' hb.symm)
  refine ⟨hle, ⟨setCells_below b e1 news top w h.below, fun x o v hf => ?_, fun id c hc => ?_, fun id x o hl => ?_, fun id x hl => h.locdom id x hl, fun i j x hi hj => h.locinj i j x hi hj, fun t' b' top' en' ho' ht' => ?_, fun t' x ht' => ?_, fun t1 t2 x1 x2 a1 a2 a3 a4 a5 => ?_, by simp [Ghost.addIn], fun x hx => ?_⟩⟩
  · simp only [Ghost.addIn] at hf
    split at hf
    · rename_i hc
      obtain ⟨rfl, hc1, hc2⟩ := hc
      obtain ⟨hlt, hv⟩ := List.getElem?_eq_some_iff.1 hf
      refine ⟨?_, h1 v (List.mem_iff_getElem?.2 ⟨_, hf⟩)⟩
      have := World.cell?_setCells_in x news top w hthere (o - top) hlt
      rw [show top + (o - top) = o by omega] at this
      rw [this, ← hv]
    · rename_i hc
      refine ⟨?_, (h.fz x o v hf).2⟩
      rw [World.cell?_setCells_out b news top w ⟨x, o, none⟩ (fun hx _ => ?_)]
      · exact (h.fz x o v hf).1
      · simp only at hx ⊢
        omega
  · obtain ⟨b', T', vs', k1, k2, k3, k4, k5⟩ := h.loc id c hc
    have hne : b' ≠ b := fun he => e5 id (he ▸ k1)
    exact ⟨b', T', vs', k1, k2, (setCells_other b news top w b' hne).trans k3, k4.mono hle, k5⟩
  · simp only [Ghost.addIn]
    rw [if_neg (fun ⟨hx, _⟩ => e5 id (hx ▸ hl))]
    exact h.locfz id x o hl
  · rcases htokc t' _ ho' ht' with ⟨rfl, he⟩ | ⟨k1, k2, k3, k4⟩
    · injection he with he1 he2
      injection he2 with he2 he3
      subst he1; subst he2; subst he3
      refine ⟨e1, ⟨cs', T, e6, by omega⟩, fun o ho => ?_, e5⟩
      simp only [Ghost.addIn]
      rw [if_neg (by omega)]
      exact e4 o (by omega)
    · obtain ⟨f1, ⟨cs2, T2, f2, f3⟩, f4, f5⟩ := h.tok t' b' top' en' k2 k3
      refine ⟨f1, ⟨cs2, T2, (setCells_other b news top w b' k4).trans f2, f3⟩, fun o ho => ?_, f5⟩
      simp only [Ghost.addIn]
      rw [if_neg (fun ⟨hx, _⟩ => k4 hx)]
      exact f4 o ho
  · simp only [Ghost.addIn] at ht'
    split at ht'
    · simp; omega
    · have := h.tokdom t' x ht'; simp; omega
  · rcases htokc t1 x1 a1 a3 with ⟨rfl, rfl⟩ | ⟨k1, k2, k3, k4⟩ <;> rcases htokc t2 x2 a2 a4 with ⟨rfl, rfl⟩ | ⟨l1, l2, l3, l4⟩
    · rfl
    · exact absurd a5.symm l4
    · exact absurd a5 k4
    · exact h.tokinj t1 t2 x1 x2 k2 l2 k3 l3 a5
  · obtain ⟨k1, k2, k3, k4⟩ := h.lit x hx
    refine ⟨k1, by rw [setCells_size]; exact k2, k3, fun t' y ho' ht' => ?_⟩
    rcases htokc t' _ ho' ht' with ⟨rfl, rfl⟩ | ⟨l1, l2, l3, l4⟩
    · exact fun hb => k4 t _ ho hg hb
    · exact k4 t' y l2 l3

/-- What is appended: its elements. -/
def byteAVs (s : ByteArray) : List AV := s.data.toList.map fun b => AV.int .u8 b.toNat
def srcOf (Ty : TypeId → Option TI) (tx : TypeId) (sz : Nat) (σ : St) : AV → Option (List AV)
  | .nils => match tdOf Ty tx with | .slice _ => some [] | _ => none
  | .sl _ sz' es => match tdOf Ty tx with | .slice _ => if sz' = sz then some es else none | _ => none
  | .str s => match tdOf Ty tx with | .str => if sz = 1 then some (byteAVs s) else none | _ => none
  | .msl id off len => match tdOf Ty tx with
    | .slice _ => match σ.objs[id]? with
      | some cells => if sz = 1 ∧ off + len ≤ cells.length then some ((cells.drop off).take len) else none
      | none => none
    | _ => none
  | _ => none
theorem one_cells {G : Ghost} {v : Value} {a : AV} (h : Rel G v a) (h1 : v.oneCell' = true) : a.cells = [a] := by
  cases h <;> first | rfl | (simp [Value.oneCell'] at h1)
theorem flat_one : ∀ {as : List AV}, (∀ a ∈ as, a.cells = [a]) → flat as = as
  | [], _ => rfl
  | a :: as, h => by rw [flat_cons, h a List.mem_cons_self, flat_one (fun x hx => h x (List.mem_cons_of_mem _ hx))]; rfl
theorem srcOf_sound {P : Program} {Ty : TypeId → Option TI} (hT : TyOk P Ty) {w0 : World} {G : Ghost} {w : World} {σ : St} (hI : Inv w0 G w σ) {tx : TypeId} {sz : Nat} {y : AV} {vy : Value} (hy : Rel G vy y) {ys : List AV} (h : srcOf Ty tx sz σ y = some ys) :
    ∃ news, Src P sz tx vy ys.length news w ∧ RelL G news (flat ys) ∧ (∀ e ∈ ys, e.cells.length = sz) := by
  unfold srcOf at h
  split at h
  · split at h <;> simp at h
    rename_i e hd
    subst h
    cases hy
    exact ⟨[], Src.ofNil w (tdOf_ok hT hd (by simp)) 0, RelL.nil G, fun e he => by cases he⟩
  · split at h <;> simp at h
    rename_i e hd
    obtain ⟨rfl, rfl⟩ := h
    obtain ⟨A, c, news, hr⟩ := hy.row
    exact ⟨news, hr.src hI (tdOf_ok hT hd (by simp)), hr.rel, hr.hz⟩
  · split at h <;> simp at h
    rename_i s x hd
    obtain ⟨rfl, rfl⟩ := h
    cases hy
    have hl : (byteAVs s).length = s.size := by rw [byteAVs, List.length_map, Array.length_toList]; rfl
    have h1 : ∀ a ∈ byteAVs s, a.cells = [a] := fun a ha => by
      obtain ⟨b, _, rfl⟩ := List.mem_map.1 ha
      rfl
    rw [hl]
    refine ⟨byteCells s, Src.ofString w (tdOf_ok hT hd (by simp)) s, ?_, fun e he => by rw [h1 e he]; rfl⟩
    rw [flat_one h1]
    refine ⟨by rw [byteCells_length, hl], fun i v a h2 h3 => ?_⟩
    unfold byteCells at h2
    unfold byteAVs at h3
    rw [List.getElem?_map] at h2 h3
    cases hb : s.data.toList[i]? with
    | none => rw [hb] at h2; cases h2
    | some b => rw [hb] at h2 h3; cases h2; cases h3; exact .int _ _
  · rename_i id off len
    split at h
    case h_2 => cases h
    rename_i e hd
    split at h
    case h_2 => cases h
    rename_i cells hc
    simp at h
    obtain ⟨⟨rfl, hle⟩, rfl⟩ := h
    cases hy
    rename_i c b hl hlec
    obtain ⟨b', T, vs, k1, k2, k3, k4, k5⟩ := hI.loc id cells hc
    rw [hl] at k1
    injection k1 with k1
    subst k1
    have hlen : vs.size = cells.length := by simpa using k4.len
    have hr : RelL G ((vs.toList.drop off).take len) ((cells.drop off).take len) := (k4.drop off).take len
    have h1 : ∀ u ∈ (vs.toList.drop off).take len, u.oneCell' = true := fun u hu => k5 u (List.mem_of_mem_drop (List.mem_of_mem_take hu))
    have hn : ((cells.drop off).take len).length = len := by simp; omega
    have h2 : ∀ a ∈ (cells.drop off).take len, a.cells = [a] := fun a ha => by
      obtain ⟨j, hj⟩ := List.mem_iff_getElem?.1 ha
      obtain ⟨u, hu, hru⟩ := hr.get hj
      exact one_cells hru (h1 u (List.mem_iff_getElem?.2 ⟨j, hu⟩))
    refine ⟨(vs.toList.drop off).take len, ?_, by rw [flat_one h2]; exact hr, fun e he => by rw [h2 e he]; rfl⟩
    rw [hn]
    refine Src.ofSlice w (tdOf_ok hT hd (by simp)) ⟨b, off, none⟩ len c _ (by simp; omega) (fun j u hu => ?_) h1
    rw [Addr.add_lit, cell_of_row _ _ _ vs T (0, 0) k3]
    rw [List.getElem?_take] at hu
    split at hu
    · rw [List.getElem?_drop] at hu
      simpa using hu
    · cases hu
  · cases h

/-- What is appended to: what is known of its room, and its elements. -/
def baseOf (sz : Nat) (σ : St) : AV → Option (Tok × List AV)
  | .nils => some (.full, [])
  | .sl .full sz' es => if sz' = sz then some (.full, es) else none
  | .sl (.own t) sz' es => if sz' = sz ∧ σ.opn[t]? = some true then some (.own t, es) else none
  | _ => none
def closed (σ : St) : Tok → St
  | .own t => ⟨σ.objs, σ.opn.set t false ++ [true]⟩
  | _ => ⟨σ.objs, σ.opn ++ [true]⟩
def aappend (Ty : TypeId → Option TI) (t tx : TypeId) (x y : AV) (σ : St) : Option (AV × St) :=
  match tdOf Ty t with
  | .slice e => match Ty e with
    | some i => match baseOf i.sz σ x, srcOf Ty tx i.sz σ y with
      | some (k, es), some ys => if 0 < i.bytes ∧ (es.length + ys.length) * i.bytes ≤ 140737488355328 then some (.sl (.own σ.opn.length) i.sz (es ++ ys), closed σ k) else none
      | _, _ => none
    | none => none
  | _ => none

theorem close_sub (σ : St) (k : Tok) : (closed σ k).objs = σ.objs ∧ σ.opn.length ≤ (closed σ k).opn.length ∧ ∀ t, (closed σ k).opn[t]? = some true → σ.opn[t]? = some true ∨ σ.opn.length ≤ t := by
  cases k <;> refine ⟨rfl, by simp [closed], fun t h => ?_⟩ <;> simp only [closed] at h
  · by_cases ht : t < σ.opn.length
    · rw [List.getElem?_append_left ht] at h; exact .inl h
    · exact .inr (by omega)
  · by_cases ht : t < σ.opn.length
    · rw [List.getElem?_append_left ht] at h; exact .inl h
    · exact .inr (by omega)
  · rename_i t0
    by_cases ht : t < σ.opn.length
    · rw [List.getElem?_append_left (by simpa using ht), List.getElem?_set] at h
      split at h
      · simp at h
      · exact .inl h
    · exact .inr (by omega)
/-- Another token has been. -/
def Ghost.more (G : Ghost) (m : Nat) : Ghost := { G with nt := m + 1 }
theorem Inv.closed {w0 : World} {G : Ghost} {w : World} {σ : St} (h : Inv w0 G w σ) (k : Tok) : G.Le (G.more σ.opn.length) ∧ Inv w0 (G.more σ.opn.length) w (closed σ k) := by
  have hle : G.Le (G.more σ.opn.length) := ⟨fun _ _ _ h => h, fun _ _ h => h, fun _ _ h => h, by simp only [Ghost.more]; have := h.nt; omega, fun _ h => h⟩
  refine ⟨hle, ?_⟩
  have hx : Inv w0 G w (Va.closed σ k) := ?_
  · exact ⟨hx.below, hx.fz, fun id c hc => by
      obtain ⟨b, T, vs, e1, e2, e3, e4, e5⟩ := hx.loc id c hc
      exact ⟨b, T, vs, e1, e2, e3, e4.mono hle, e5⟩, hx.locfz, hx.locdom, hx.locinj, hx.tok, hx.tokdom, hx.tokinj, by cases k <;> simp [Ghost.more, Va.closed], hx.lit⟩
  obtain ⟨h1, h2, h3⟩ := close_sub σ k
  refine h.sub h1 h2 (fun t ht => (h3 t ht).imp id (fun hle => ?_))
  cases hx : G.tok t with
  | none => rfl
  | some x => have := h.tokdom t x hx; omega
theorem Inv.closed' {w0 : World} {G : Ghost} {w : World} {σ : St} (h : Inv w0 G w ⟨σ.objs, σ.opn ++ [true]⟩) (k : Tok) : Inv w0 G w (Va.closed σ k) := by
  refine h.sub (close_sub σ k).1 (by cases k <;> simp [Va.closed]) (fun t ht => .inl ?_)
  cases k <;> simp only [Va.closed] at ht
  · exact ht
  · exact ht
  · rename_i t0
    by_cases hlt : t < σ.opn.length
    · rw [List.getElem?_append_left (by simpa using hlt), List.getElem?_set] at ht
      rw [List.getElem?_append_left hlt]
      split at ht
      · simp at ht
      · exact ht
    · rw [List.getElem?_append_right (by simpa using hlt)] at ht
      rw [List.getElem?_append_right (by omega)]
      simpa using ht

/-- The base's value. -/
theorem baseOf_sound {w0 : World} {G : Ghost} {w : World} {σ : St} (hI : Inv w0 G w σ) {sz : Nat} {x : AV} {vx : Value} (hx : Rel G vx x) {k : Tok} {es : List AV} (h : baseOf sz σ x = some (k, es)) :
    ∃ A c olds, Row G vx sz es A c olds ∧ (es.length = c ∨ ∃ t b o, k = .own t ∧ σ.opn[t]? = some true ∧ A = some ⟨b, o, none⟩ ∧ G.tok t = some (b, o + es.length * sz, o + c * sz)) := by
  unfold baseOf at h
  split at h
  · simp at h
    obtain ⟨rfl, rfl⟩ := h
    cases hx
    exact ⟨none, 0, [], ⟨rfl, Nat.le_refl _, Nat.zero_le _, (fun e he => by cases he), (by simp), RelL.nil G, (fun h => by simp at h)⟩, .inl rfl⟩
  · split at h
    case isFalse => cases h
    rename_i hs
    simp at h
    obtain ⟨rfl, rfl⟩ := h
    subst hs
    obtain ⟨A, c, news, hr⟩ := hx.row
    refine ⟨A, c, news, hr, .inl ?_⟩
    have hv := hr.val
    cases hx with
    | sl b o c' t sz es val hc hm hz hf h ht => injection hv with _ _ e3; subst e3; exact ht.1
    | sl0 A c' t sz hm ht => injection hv with _ _ e3; subst e3; exact (ht.resolve_left (by simp)).1.symm
  · split at h
    case isFalse => cases h
    rename_i t _ _ hs
    simp at h
    obtain ⟨rfl, rfl⟩ := h
    obtain ⟨rfl, ho⟩ := hs
    obtain ⟨A, c, news, hr⟩ := hx.row
    refine ⟨A, c, news, hr, ?_⟩
    have hv := hr.val
    cases hx with
    | sl b o c' t sz es val hc hm hz hf h ht =>
      injection hv with e1 _ e3; subst e3
      rcases ht.2 with ht | ht
      · exact .inl ht
      · exact .inr ⟨t, b, o, rfl, ho, e1.symm, ht⟩
    | sl0 A c' t sz hm ht =>
      injection hv with _ _ e3; subst e3
      exact .inl (ht.resolve_left (by simp)).1.symm
  · cases h

theorem aappend_sound {P : Program} {Ty : TypeId → Option TI} (hT : TyOk P Ty) {w0 : World} {G : Ghost} {w : World} {σ : St} (hI : Inv w0 G w σ) (t tx ty : TypeId) {x y : AV} {vx vy : Value} (hx : Rel G vx x) (hy : Rel G vy y) {a : AV} {σ' : St}
    (h : aappend Ty t tx x y σ = some (a, σ')) : ∃ v w' G', (Builtin.append_ #[t, tx] ty #[vx, vy]).run P w = .ok v w' ∧ G.Le G' ∧ Inv w0 G' w' σ' ∧ Rel G' v a := by
  unfold aappend at h
  split at h
  case h_2 => cases h
  rename_i e hd
  split at h
  case h_2 => cases h
  rename_i i hi
  split at h
  case h_2 => cases h
  rename_i k es ys hb hs
  split at h
  case isFalse => cases h
  rename_i hbytes
  simp at h
  obtain ⟨rfl, rfl⟩ := h
  obtain ⟨hd2, ti, z, g1, g2, g3, g4, g5, g6, g7, g8⟩ := hT e i hi
  have ht := tdOf_ok hT hd (by simp)
  obtain ⟨A, c, olds, hR, hroom⟩ := baseOf_sound hI hx hb
  obtain ⟨news, hS, hN, hyz⟩ := srcOf_sound hT hI hy hs
  have hS' : Src P ti.size tx vy ys.length news w := by rw [g2]; exact hS
  have hnl : news.length = ys.length * i.sz := hS.newsLen
  have hz : ∀ e ∈ es ++ ys, e.cells.length = i.sz := fun e he => (List.mem_append.1 he).elim (hR.hz e) (hyz e)
  have hrel : RelL G (olds ++ news) (flat (es ++ ys)) := by rw [flat_append]; exact hR.rel.append hN
  have hmx : es.length + ys.length ≤ 140737488355328 := by
    have := hbytes.2
    calc es.length + ys.length = (es.length + ys.length) * 1 := (Nat.mul_one _).symm
      _ ≤ (es.length + ys.length) * i.bytes := Nat.mul_le_mul_left _ hbytes.1
      _ ≤ _ := this
  have hlen2 : (es ++ ys).length = es.length + ys.length := List.length_append
  have h1o := hR.one hI
  by_cases hfit : es.length + ys.length ≤ c
  · by_cases h0 : ys.length = 0
    · -- nothing is appended
      have hys : ys = [] := List.eq_nil_of_length_eq_zero h0
      subst hys
      have hnn : news = [] := List.eq_nil_of_length_eq_zero (by rw [hnl]; simp)
      subst hnn
      have hrun := run_append_nothing (P := P) w t tx ty e ti ht g1 A es.length c hR.le vy hS'
      rw [← hR.val] at hrun
      rcases hroom with hc | ⟨t0, b, o, rfl, ho, rfl, htok⟩
      · obtain ⟨hle, hI'⟩ := hI.closed k
        refine ⟨vx, w, _, hrun, hle, hI', ?_⟩
        have htin : σ.opn.length < (G.more σ.opn.length).nt := Nat.lt_succ_self _
        rw [List.append_nil]
        rcases Nat.eq_zero_or_pos es.length with hz0 | hz0
        · have : es = [] := List.eq_nil_of_length_eq_zero hz0
          subst this
          rw [hR.val]
          exact .sl0 A c _ _ hR.max (.inr ⟨hc.symm, htin⟩)
        · obtain ⟨b, o, rfl, hf⟩ := hR.at_ hz0
          rw [hR.val]
          exact Rel.mkSl hR.le hR.max hR.hz (hR.rel.mono hle) hf ⟨htin, .inl hc⟩
      · obtain ⟨hle, hI'⟩ := hI.append_in ho htok [] (fun v hv => by cases hv) (by
          have := Nat.mul_le_mul_right i.sz hR.le; simp; omega)
        refine ⟨vx, w, _, hrun, hle, hI', ?_⟩
        rw [List.append_nil, hR.val]
        refine Rel.mkSl hR.le hR.max hR.hz (hR.rel.mono hle) (fun j u hu => ?_) ⟨Nat.lt_succ_self _, .inr ?_⟩
        · have hp : 0 < es.length := by
            rcases Nat.eq_zero_or_pos es.length with hz0 | hz0
            · have := hR.len; rw [hz0, Nat.zero_mul] at this
              rw [List.eq_nil_of_length_eq_zero this] at hu; simp at hu
            · exact hz0
          obtain ⟨b', o', he, hf⟩ := hR.at_ hp
          injection he with he
          injection he with he1 he2
          subst he1; subst he2
          exact hle.fz _ _ _ (hf j u hu)
        · simp [Ghost.addIn]
    · -- there is room
      rcases hroom with hc | ⟨t0, b, o, rfl, ho, rfl, htok⟩
      · omega
      obtain ⟨_, ⟨cs, T, e2, e3⟩, _, _⟩ := hI.tok t0 _ _ _ ho htok
      have hcap : o + es.length * i.sz + news.length ≤ o + c * i.sz := by
        rw [hnl, Nat.add_assoc, ← Nat.add_mul]
        exact Nat.add_le_add_left (Nat.mul_le_mul_right _ hfit) _
      obtain ⟨hle, hI'⟩ := hI.append_in ho htok news hS.one hcap
      have hrun := run_append_room_src (P := P) w t tx ty e ti ht g1 b o es.length c vy ys.length news hS' hfit
        (fun j hj => by rw [cell_of_row _ _ _ cs T (0, 0) e2, Array.getElem?_eq_getElem (by rw [g2]; omega)]; rfl)
        (fun j hj => frozen_of_row _ _ _ cs T e2)
      rw [← hR.val, g2] at hrun
      refine ⟨_, _, _, hrun, hle, hI', ?_⟩
      rw [← hlen2]
      refine Rel.mkSl (by rw [hlen2]; exact hfit) hR.max hz (hrel.mono hle) (fun j u hu => ?_) ⟨Nat.lt_succ_self _, .inr ?_⟩
      · by_cases hj : j < olds.length
        · rw [List.getElem?_append_left hj] at hu
          have hp : 0 < es.length := by
            rcases Nat.eq_zero_or_pos es.length with hz0 | hz0
            · have := hR.len; rw [hz0, Nat.zero_mul] at this; omega
            · exact hz0
          obtain ⟨b', o', he, hf⟩ := hR.at_ hp
          injection he with he
          injection he with he1 he2
          subst he1; subst he2
          exact hle.fz _ _ _ (hf j u hu)
        · rw [List.getElem?_append_right (by omega)] at hu
          have hlt := (List.getElem?_eq_some_iff.1 hu).1
          have hol := hR.len
          simp only [Ghost.addIn]
          rw [if_pos ⟨trivial, by omega, by omega⟩, show o + j - (o + es.length * i.sz) = j - olds.length by omega]
          exact hu
      · simp only [Ghost.addIn, if_true, Option.some.injEq, Prod.mk.injEq, true_and]
        rw [hlen2, hnl, Nat.add_mul]
        exact ⟨by omega, trivial⟩
  · -- a new row
    have hold : (Builtin.firstCells ti.size es.length (.slice A es.length c)).run P w.drew = .ok olds.toArray w.drew := by
      have := (hR.src hI.drew ht).cells
      rw [hR.val, ← g2] at this
      exact this
    have hrun := run_append_grow_src (P := P) w t tx ty e ti z ht g1 g4 A es.length c olds hold vy ys.length news hS' (by omega) (by omega) (growslice_fits (by omega) (by rw [g3]; exact hbytes.2))
    rw [← hR.val] at hrun
    have hge := grownCap_ge w (es.length + ys.length) c e
    have hcm := grownCap_le_maxLen w (es.length + ys.length) c e (by simp only [maxLen]; omega)
    have hL : (olds ++ news).length = (es.length + ys.length) * i.sz := by rw [List.length_append, hR.len, hnl, Nat.add_mul]
    have hcsz : ((olds ++ news).toArray ++ Builtin.zeroCells z.cells (grownCap w (es.length + ys.length) c e - (es.length + ys.length))).size = grownCap w (es.length + ys.length) c e * i.sz := by
      rw [Array.size_append, List.size_toArray, hL, size_zeroCells, g6, ← Nat.add_mul]
      congr 1
      omega
    have htk : (((olds ++ news).toArray ++ Builtin.zeroCells z.cells (grownCap w (es.length + ys.length) c e - (es.length + ys.length))).toList.take ((es.length + ys.length) * i.sz)) = olds ++ news := by
      rw [Array.toList_append, List.toList_toArray, List.take_append_of_le_length (by omega), List.take_of_length_le (by omega)]
    obtain ⟨hle, hI'⟩ := hI.drew.alloc_row ((olds ++ news).toArray ++ Builtin.zeroCells z.cells (grownCap w (es.length + ys.length) c e - (es.length + ys.length))) e ((es.length + ys.length) * i.sz)
      (by rw [hcsz]; exact Nat.mul_le_mul_right _ hge) (by rw [htk]; exact fun v hv => (List.mem_append.1 hv).elim (h1o v) (hS.one v))
    refine ⟨_, _, _, hrun, hle, hI'.closed' k, ?_⟩
    have key := Rel.mkSl (b := w.heap.size) (o := 0) (t := .own σ.opn.length) (c := grownCap w (es.length + ys.length) c e) (by rw [hlen2]; exact hge) hcm hz (hrel.mono hle) (fun j u hu => by
      simp only [Ghost.addRow, World.size_drew, if_true, Nat.zero_add]
      rw [htk]
      exact hu) ⟨by simp [Ghost.addRow], .inr (by
      simp only [Ghost.addRow, if_true, World.size_drew, Nat.zero_add]
      rw [hcsz, hlen2])⟩
    rw [hlen2] at key
    exact key
end Go.Va
