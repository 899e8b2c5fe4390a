/- Literals; make; new variables. -/
import Derived.Test.YtnjijefhnmnjgaaVaH
namespace Go.Va
open Go Go.RowKit
set_option linter.unusedVariables false
set_option linter.unusedSimpArgs false
section
variable {P : Program} {Ty : TypeId → Option TI} {w0 : World} {G : Ghost} {w : World} {σ : St}

theorem foldl_set (off : Nat) : ∀ (vs : List Value) (k : Nat) (cs : Array Value), off + k + vs.length ≤ cs.size →
    ((vs.zipIdx k).foldl (fun (cs : Array Value) (p : Value × Nat) => cs.setIfInBounds (off + p.2) p.1) cs).toList = cs.toList.take (off + k) ++ vs ++ cs.toList.drop (off + k + vs.length)
  | [], k, cs, _ => by simp
  | v :: vs, k, cs, h => by
    simp only [List.length_cons] at h
    rw [List.zipIdx_cons, List.foldl_cons, foldl_set off vs (k + 1) _ (by simp; omega)]
    simp only [Array.toList_setIfInBounds, List.length_cons]
    have hlt : off + k < cs.toList.length := by simp; omega
    have e1 : (cs.toList.set (off + k) v).take (off + (k + 1)) = cs.toList.take (off + k) ++ [v] := by
      rw [← Nat.add_assoc, List.take_succ_eq_append_getElem (by simpa using hlt)]
      rw [List.take_set_of_le (Nat.le_refl _)]
      simp
    have e2 : (cs.toList.set (off + k) v).drop (off + (k + 1) + vs.length) = cs.toList.drop (off + k + (vs.length + 1)) := by
      rw [List.drop_set_of_lt (by omega)]
      congr 1
      omega
    rw [e1, e2]
    simp
inductive PartsRel (G : Ghost) : List (Nat × Value) → List (Nat × AV) → Prop where
  | nil : PartsRel G [] []
  | cons (i : Nat) {v : Value} {a : AV} {ps : List (Nat × Value)} {as : List (Nat × AV)} (h : Rel G v a) (t : PartsRel G ps as) : PartsRel G ((i, v) :: ps) ((i, a) :: as)
theorem partsRel_map {ρ : Operand → Value} {ev : Operand → AV} (h : ∀ x, Rel G (ρ x) (ev x)) : ∀ (ps : List (Nat × Operand)), PartsRel G (ps.map fun p => (p.1, ρ p.2)) (ps.map fun p => (p.1, ev p.2))
  | [] => .nil
  | (i, x) :: ps => .cons i (h x) (partsRel_map h ps)
def afill (place : Nat → Option (Nat × Nat)) : List AV → List (Nat × AV) → Option (List AV)
  | cells, [] => some cells
  | cells, (i, v) :: rest => match place i with
    | some (off, size) => if v.cells.all flatAV = true ∧ v.cells.length = size ∧ off + size ≤ cells.length then afill place (repl cells off v.cells) rest else none
    | none => none
theorem afill_sound (place : Nat → Option (Nat × Nat)) : ∀ {ps : List (Nat × Value)} {as : List (Nat × AV)} (_ : PartsRel G ps as) {cells : Array Value} {ac r : List AV} (_ : RelL G cells.toList ac) (_ : ∀ u ∈ cells.toList, u.oneCell' = true) (_ : afill place ac as = some r),
    ∃ cells', Instr.fill place cells ps = some cells' ∧ RelL G cells'.toList r ∧ ∀ u ∈ cells'.toList, u.oneCell' = true
  | _, _, .nil, cells, ac, r, hr, h1, h => by
    simp [afill] at h
    subst h
    exact ⟨cells, rfl, hr, h1⟩
  | _, _, .cons i hv t, cells, ac, r, hr, h1, h => by
    rename_i v a ps as
    simp only [afill] at h
    split at h
    case h_2 => cases h
    rename_i off size hp
    split at h
    case isFalse => cases h
    rename_i hc
    obtain ⟨c1, c2, c3⟩ := hc
    obtain ⟨hrc, h1c⟩ := cells_flat hv c1
    have hsz : v.cells.size = size := by have := hrc.len; simp at this; omega
    have hcs : cells.size = ac.length := by simpa using hr.len
    have hfold := foldl_set off v.cells.toList 0 cells (by simp; omega)
    simp only [Nat.add_zero] at hfold
    have hzip : v.cells.zipIdx.foldl (fun (cs : Array Value) (x : Value × Nat) => cs.setIfInBounds (off + x.2) x.1) cells = (v.cells.toList.zipIdx 0).foldl (fun (cs : Array Value) (p : Value × Nat) => cs.setIfInBounds (off + p.2) p.1) cells := by
      rw [← Array.foldl_toList]
      congr 1
      simp
    obtain ⟨cells', k1, k2, k3⟩ := afill_sound place t (cells := v.cells.zipIdx.foldl (fun (cs : Array Value) (x : Value × Nat) => cs.setIfInBounds (off + x.2) x.1) cells) (by rw [hzip, hfold]; exact repl_rel hr hrc off) (by
      rw [hzip, hfold]
      intro u hu
      simp only [List.mem_append] at hu
      rcases hu with (hu | hu) | hu
      · exact h1 u (List.mem_of_mem_take hu)
      · exact h1c u hu
      · exact h1 u (List.mem_of_mem_drop hu)) h
    refine ⟨cells', ?_, k2, k3⟩
    simp only [Instr.fill, hp]
    rw [if_neg (by simp [hsz]; omega)]
    exact k1

/-- Where a literal's parts lie. -/
def aplace (Ty : TypeId → Option TI) (T : TypeId) : Option (Nat → Option (Nat × Nat)) :=
  match tdOf Ty T with
  | .struct fs => if fs.all (fun f => (Ty f.2).isSome) then some (fun i => (fs.map fun f => (f.1, szOf Ty f.2))[i]?) else none
  | .arr _ e => if (Ty e).isSome then some (fun i => some (i * szOf Ty e, szOf Ty e)) else none
  | _ => none
def abuild (Ty : TypeId → Option TI) (T : TypeId) (parts : List (Nat × AV)) : Option AV :=
  match Ty T, aplace Ty T with
  | some i, some place => match afill place i.zero.cells parts with | some cs => some (.agg cs) | none => none
  | _, _ => none
theorem szOf_info (hT : TyOk P Ty) {t : TypeId} (h : (Ty t).isSome = true) : ∃ ti, P.info? t = some ti ∧ ti.size = szOf Ty t := by
  obtain ⟨i, hi⟩ := Option.isSome_iff_exists.1 h
  obtain ⟨ti, z, h1, h2, _⟩ := (hT t i hi).info
  exact ⟨ti, h1, by rw [h2, szOf, hi]⟩
theorem abuild_sound (hT : TyOk P Ty) {T : TypeId} {ps : Array (Nat × Value)} {as : List (Nat × AV)} (hp : PartsRel G ps.toList as) {a : AV} (h : abuild Ty T as = some a) : ∃ v, (Instr.build T ps).run P w = .ok v w ∧ Rel G v a := by
  unfold abuild at h
  split at h
  case h_2 => cases h
  rename_i i place hi hpl
  split at h
  case h_2 => cases h
  rename_i cs hf
  simp at h
  subst h
  obtain ⟨ti, z, h1, h2, h3, h4, h5, h6, h7, h8⟩ := (hT T i hi).info
  have hz1 : ∀ u ∈ z.cells.toList, u.oneCell' = true := fun u hu => by
    rw [Array.all_eq_true_iff_forall_mem] at h8
    exact h8 u (Array.mem_toList_iff.1 hu)
  obtain ⟨cells', k1, k2, k3⟩ := afill_sound place hp (h5 G) hz1 hf
  refine ⟨.agg cells', run_build w T ps cells' ?_, mkAgg k2⟩
  unfold aplace at hpl
  unfold Program.built
  split at hpl
  · rename_i fs hd
    split at hpl
    case isFalse => cases hpl
    rename_i hall
    simp at hpl
    subst hpl
    obtain ⟨fields, hu, hfs⟩ := tdOf_ok hT hd (by simp)
    have hm : ∀ (l : List Field), (∀ f ∈ l, (Ty f.type).isSome = true) → l.mapM (fun f => (P.info? f.type).map fun i => (f.offset, i.size)) = some (l.map fun f => (f.offset, szOf Ty f.type)) := by
      intro l
      induction l with
      | nil => intro _; rfl
      | cons f l ih =>
        intro hl
        obtain ⟨ti', e1, e2⟩ := szOf_info hT (hl f List.mem_cons_self)
        simp [List.mapM_cons, e1, e2, ih (fun g hg => hl g (List.mem_cons_of_mem _ hg))]
    have hm' := hm fields.toList (fun f hf => by
      rw [List.all_eq_true] at hall
      exact hall (f.offset, f.type) (by rw [← hfs]; exact List.mem_map.2 ⟨f, hf, rfl⟩))
    simp only [hu, h1, h4, hm']
    rw [← k1]
    congr 1
    funext x
    rw [← hfs]
    simp only [List.getElem?_toArray, List.getElem?_map]
    cases fields.toList[x]? <;> rfl
  · rename_i n e hd
    split at hpl
    case isFalse => cases hpl
    rename_i he
    simp at hpl
    subst hpl
    have hu : P.underlying T = some (.array n e) := tdOf_ok hT hd (by simp)
    obtain ⟨ti', e1, e2⟩ := szOf_info hT he
    simp only [hu, h1, h4, e1, e2]
    exact k1
  · cases hpl

/-! ### rows of literals and of make -/
theorem flat_set {sz : Nat} : ∀ {es : List AV} (_ : ∀ e ∈ es, e.cells.length = sz) {i : Nat} (_ : i < es.length) {v : AV} (_ : v.cells.length = sz), flat (es.set i v) = repl (flat es) (i * sz) v.cells
  | [], _, i, hi, _, _ => by simp at hi
  | e :: es, h, i, hi, v, hv => by
    have he := h e List.mem_cons_self
    cases i with
    | zero => simp [flat_cons, repl, hv, ← he]
    | succ i =>
      have ih := flat_set (fun x hx => h x (List.mem_cons_of_mem _ hx)) (i := i) (by simpa using hi) hv
      rw [List.set_cons_succ, flat_cons, flat_cons, ih]
      unfold repl
      rw [Nat.add_mul, Nat.one_mul, List.take_append, List.drop_append, List.take_of_length_le (l := e.cells) (by omega), List.drop_of_length_le (l := e.cells) (by omega)]
      rw [show i * sz + sz - e.cells.length = i * sz by omega, show i * sz + sz + v.cells.length - e.cells.length = i * sz + v.cells.length by omega]
      simp
theorem set_hz {sz : Nat} {es : List AV} (h : ∀ e ∈ es, e.cells.length = sz) {i : Nat} {v : AV} (hv : v.cells.length = sz) : ∀ e ∈ es.set i v, e.cells.length = sz := by
  intro e he
  rcases List.mem_or_eq_of_mem_set he with he | he
  · exact h e he
  · rw [he]; exact hv
/-- Elements laid into a row. -/
def alay (sz : Nat) : List AV → List (Nat × AV) → Option (List AV)
  | es, [] => some es
  | es, (i, v) :: rest => if v.cells.all flatAV = true ∧ v.cells.length = sz ∧ i < es.length then alay sz (es.set i v) rest else none
theorem alay_fill {sz : Nat} : ∀ {as : List (Nat × AV)} {es r : List AV} (_ : ∀ e ∈ es, e.cells.length = sz) (_ : alay sz es as = some r), afill (fun i => some (i * sz, sz)) (flat es) as = some (flat r) ∧ (∀ e ∈ r, e.cells.length = sz) ∧ r.length = es.length
  | [], es, r, hz, h => by simp [alay] at h; subst h; exact ⟨rfl, hz, rfl⟩
  | (i, v) :: as, es, r, hz, h => by
    simp only [alay] at h
    split at h
    case isFalse => cases h
    rename_i hc
    obtain ⟨c1, c2, c3⟩ := hc
    obtain ⟨k1, k2, k3⟩ := alay_fill (set_hz hz c2) h
    refine ⟨?_, k2, by simpa using k3⟩
    simp only [afill]
    have hlt : i * sz + sz ≤ (flat es).length := by
      rw [flat_length hz, ← Nat.succ_mul]
      exact Nat.mul_le_mul_right _ c3
    rw [if_pos ⟨c1, c2, hlt⟩, ← flat_set hz c3 c2]
    exact k1
theorem made_rel {z : Value} {zc : AV} {sz : Nat} (hr : RelL G z.cells.toList zc.cells) (hs : z.cells.size = sz) (n : Nat) : RelL G (madeCells z.cells (n * sz)).toList (flat (List.replicate n zc)) := by
  have hl : zc.cells.length = sz := by rw [← hr.len]; simpa using hs
  have hz : ∀ e ∈ List.replicate n zc, e.cells.length = sz := fun e he => by rw [(List.mem_replicate.1 he).2]; exact hl
  refine ⟨by rw [flat_length hz]; simp [size_madeCells], fun k u a h1 h2 => ?_⟩
  obtain ⟨i, e, j, rfl, hj, h3, h4⟩ := flat_at hz h2
  have he : e = zc := (List.mem_replicate.1 (List.mem_iff_getElem?.2 ⟨i, h3⟩)).2
  subst he
  refine hr.at_ j u a ?_ h4
  have hk : i * sz + j < n * sz := by
    have := (List.getElem?_eq_some_iff.1 h2).1
    rwa [flat_length hz, List.length_replicate] at this
  simp only [madeCells, Array.toList_map, List.getElem?_map] at h1
  have : (Array.range (n * sz)).toList[i * sz + j]? = some (i * sz + j) := by simp [hk]
  rw [this] at h1
  simp only [Option.map_some, Option.some.injEq] at h1
  have hm : (i * sz + j) % z.cells.size = j := by rw [hs, Nat.mul_comm, Nat.mul_add_mod]; exact Nat.mod_eq_of_lt hj
  rw [hm] at h1
  have hj' : j < z.cells.size := by omega
  rw [getElem!_pos z.cells j hj'] at h1
  rw [Array.getElem?_toList, Array.getElem?_eq_getElem hj', h1]
theorem made_one {z : Value} {sz : Nat} (h1 : ∀ u ∈ z.cells.toList, u.oneCell' = true) (hs : z.cells.size = sz) (n : Nat) : ∀ u ∈ (madeCells z.cells (n * sz)).toList, u.oneCell' = true := by
  intro u hu
  simp only [madeCells, Array.toList_map, List.mem_map] at hu
  obtain ⟨k, hk, rfl⟩ := hu
  have hk' : k < n * sz := by simpa using hk
  have hpos : 0 < sz := by
    rcases Nat.eq_zero_or_pos sz with h0 | h0
    · subst h0; simp at hk'
    · exact h0
  have hlt : k % z.cells.size < z.cells.size := Nat.mod_lt _ (by omega)
  rw [getElem!_pos z.cells _ hlt]
  exact h1 _ (Array.mem_toList_iff.2 (Array.getElem_mem hlt))

def abuildSlice (Ty : TypeId → Option TI) (T : TypeId) (n : Nat) (parts : List (Nat × AV)) : Option AV :=
  match tdOf Ty T with
  | .slice e => match Ty e with
    | some i => if n * i.sz ≤ 16777216 ∧ 0 < i.sz then (match alay i.sz (List.replicate n i.zero) parts with | some es => some (.sl .full i.sz es) | none => none) else none
    | none => none
  | _ => none
theorem abuildSlice_sound (hT : TyOk P Ty) (hI : Inv w0 G w σ) {T : TypeId} {n : Nat} {ps : Array (Nat × Value)} {as : List (Nat × AV)} (hp : PartsRel G ps.toList as) {a : AV} (h : abuildSlice Ty T n as = some a) :
    ∃ v w' G', (Instr.buildSlice T n ps).run P w = .ok v w' ∧ G.Le G' ∧ Inv w0 G' w' σ ∧ Rel G' v a := by
  unfold abuildSlice at h
  split at h
  case h_2 => cases h
  rename_i e hd
  split at h
  case h_2 => cases h
  rename_i i hi
  split at h
  case isFalse => cases h
  rename_i hc
  split at h
  case h_2 => cases h
  rename_i es hes
  simp at h
  subst h
  obtain ⟨ti, z, h1, h2, h3, h4, h5, h6, h7, h8⟩ := (hT e i hi).info
  have hz1 : ∀ u ∈ z.cells.toList, u.oneCell' = true := fun u hu => by
    rw [Array.all_eq_true_iff_forall_mem] at h8
    exact h8 u (Array.mem_toList_iff.1 hu)
  have hrz : ∀ e ∈ List.replicate n i.zero, e.cells.length = i.sz := fun e he => by rw [(List.mem_replicate.1 he).2]; exact h7
  obtain ⟨k1, k2, k3⟩ := alay_fill hrz hes
  obtain ⟨cells', f1, f2, f3⟩ := afill_sound (fun j => some (j * i.sz, i.sz)) hp (made_rel (h5 G) h6 n) (made_one hz1 h6 n) k1
  have hu := tdOf_ok hT hd (by simp)
  have hel : es.length = n := by simpa using k3
  have hrun : (Instr.buildSlice T n ps).run P w = .ok (.slice (some ⟨w.heap.size, 0, none⟩) n n) (w.alloc (.cells cells' e)) := by
    by_cases h0 : n * i.sz = 0
    · have hn : n = 0 := by rcases Nat.mul_eq_zero.1 h0 with h | h <;> omega
      subst hn
      have hm0 : madeCells z.cells (0 * i.sz) = #[] := by simp [madeCells]
      rw [hm0] at f1
      simp [Instr.buildSlice, run_underlying hu, Go.sizeOf, typeInfo, h1, h2, newRow, Array.range_zero', f1]
    · exact run_buildSlice w T e n ps cells' ti z hu h1 h4 (by rw [h2]; omega) (by rw [h2]; exact h0) (by rw [h2]; exact f1)
  obtain ⟨hle1, hI1⟩ := hI.alloc_fz cells' e f3 (0, 0)
  obtain ⟨hle2, hI'⟩ := hI1.lit_new (b := w.heap.size) hI.below.size (by simp) (fun id hl => by have := hI.loclt (id := id) (b := w.heap.size) hl; omega) (fun t x ho ht => by
    simp [Ghost.addRow] at ht
    obtain ⟨_, ⟨cs', T', e2, _⟩, _, _⟩ := hI.tok t x.1 x.2.1 x.2.2 ho ht
    have := (Array.getElem?_eq_some_iff.1 e2).1
    omega)
  have hle := hle1.trans hle2
  refine ⟨_, _, _, hrun, hle, hI', ?_⟩
  have hmax : n ≤ maxLen := by
    have : n * 1 ≤ n * i.sz := Nat.mul_le_mul_left _ hc.2
    simp only [maxLen]; omega
  rw [← hel]
  refine Rel.mkSl (Nat.le_refl _) (by rw [hel]; exact hmax) k2 (f2.mono hle) (fun j u hu => ?_) ⟨rfl, by simp [Ghost.addLit]⟩
  simp [Ghost.addRow, Ghost.addLit]
  simpa using hu

/-- make: zeros that will never change, or (mu) a variable. -/
def amake (Ty : TypeId → Option TI) (mu : Bool) (T : TypeId) (x y : AV) (σ : St) : Option (AV × St) :=
  match tdOf Ty T, x, y with
  | .slice e, .int _ n, .int _ c => match Ty e with
    | some i => if 0 ≤ n ∧ n ≤ c ∧ (i.bytes : Int) * c ≤ 281474976710656 ∧ c ≤ 9223372036854775807 then
        (if mu then (if n = c then some (.msl σ.objs.length 0 n.toNat, ⟨σ.objs ++ [flat (List.replicate n.toNat i.zero)], σ.opn⟩) else none)
         else some (.sl (.own σ.opn.length) i.sz (List.replicate n.toNat i.zero), ⟨σ.objs, σ.opn ++ [true]⟩))
      else none
    | none => none
  | _, _, _ => none
theorem amake_sound (hT : TyOk P Ty) (hI : Inv w0 G w σ) {mu : Bool} {T : TypeId} {x y : AV} {vx vy : Value} (hx : Rel G vx x) (hy : Rel G vy y) {a : AV} {σ' : St} (h : amake Ty mu T x y σ = some (a, σ')) :
    ∃ v w' G', (Instr.makeSlice T vx vy).run P w = .ok v w' ∧ G.Le G' ∧ Inv w0 G' w' σ' ∧ Rel G' v a := by
  unfold amake at h
  split at h
  case h_2 => cases h
  rename_i e k n k' c hd
  split at h
  case h_2 => cases h
  rename_i i hi
  split at h
  case isFalse => cases h
  rename_i hc
  obtain ⟨c1, c2, c3, c4⟩ := hc
  cases hx; cases hy
  obtain ⟨ti, z, h1, h2, h3, h4, h5, h6, h7, h8⟩ := (hT e i hi).info
  have hz1 : ∀ u ∈ z.cells.toList, u.oneCell' = true := fun u hu => by
    rw [Array.all_eq_true_iff_forall_mem] at h8
    exact h8 u (Array.mem_toList_iff.1 hu)
  have hu := tdOf_ok hT hd (by simp)
  have hrun := run_make (P := P) w T e ti z hu h1 h4 k k' n c c1 c2 (by rw [h3]; exact c3) c4
  rw [h2] at hrun
  have hmax : c.toNat ≤ maxLen := by simp only [maxLen]; omega
  split at h
  · split at h
    case isFalse => cases h
    rename_i hnc
    subst hnc
    simp at h
    obtain ⟨rfl, rfl⟩ := h
    obtain ⟨hle, hI'⟩ := hI.alloc_loc (madeCells z.cells (n.toNat * i.sz)) e _ (made_rel (h5 G) h6 n.toNat) (made_one hz1 h6 n.toNat)
    exact ⟨_, _, _, hrun, hle, hI', .msl _ _ _ _ w.heap.size (Nat.le_refl _) (by simp [Ghost.addLoc])⟩
  · simp at h
    obtain ⟨rfl, rfl⟩ := h
    have hnc : n.toNat ≤ c.toNat := by omega
    have htk : ((madeCells z.cells (c.toNat * i.sz)).toList.take (n.toNat * i.sz)) = (madeCells z.cells (n.toNat * i.sz)).toList := by
      simp only [madeCells, Array.toList_map, ← List.map_take]
      congr 1
      have := Nat.mul_le_mul_right i.sz hnc
      simp [Nat.min_eq_left this]
    obtain ⟨hle, hI'⟩ := hI.alloc_row (madeCells z.cells (c.toNat * i.sz)) e (n.toNat * i.sz) (by rw [size_madeCells]; exact Nat.mul_le_mul_right _ hnc) (by rw [htk]; exact made_one hz1 h6 _)
    refine ⟨_, _, _, hrun, hle, hI', ?_⟩
    have hlen : (List.replicate n.toNat i.zero).length = n.toNat := List.length_replicate
    have key := Rel.mkSl (G := G.addRow w.heap.size ((madeCells z.cells (c.toNat * i.sz)).toList.take (n.toNat * i.sz)) σ.opn.length (some (w.heap.size, n.toNat * i.sz, (madeCells z.cells (c.toNat * i.sz)).size))) (b := w.heap.size) (o := 0) (c := c.toNat) (sz := i.sz) (t := .own σ.opn.length) (es := List.replicate n.toNat i.zero) (news := (madeCells z.cells (n.toNat * i.sz)).toList)
      (by rw [hlen]; exact hnc) hmax (fun e he => by rw [(List.mem_replicate.1 he).2]; exact h7) ((made_rel (h5 G) h6 n.toNat).mono hle)
      (fun j u hu => by simp only [Ghost.addRow, if_true, Nat.zero_add]; rw [htk]; exact hu)
      ⟨by simp [Ghost.addRow], .inr (by simp only [Ghost.addRow, if_true, Nat.zero_add, size_madeCells, hlen])⟩
    rw [hlen] at key
    exact key

/-! ### new variables -/
def aalloc (Ty : TypeId → Option TI) (T : TypeId) (σ : St) : Option (AV × St) :=
  match Ty T with
  | some i => some (.ref σ.objs.length 0, ⟨σ.objs ++ [i.zero.cells], σ.opn⟩)
  | none => none
theorem aalloc_sound (hT : TyOk P Ty) (hI : Inv w0 G w σ) {T : TypeId} {a : AV} {σ' : St} (h : aalloc Ty T σ = some (a, σ')) (old : Value) :
    ∃ v w' G', (Instr.alloc T true old).run P w = .ok v w' ∧ G.Le G' ∧ Inv w0 G' w' σ' ∧ Rel G' v a := by
  unfold aalloc at h
  split at h
  case h_2 => cases h
  rename_i i hi
  simp at h
  obtain ⟨rfl, rfl⟩ := h
  obtain ⟨z, e1, e2, e3, e4⟩ := zero_run (P := P) hT hi w
  obtain ⟨hle, hI'⟩ := hI.alloc_loc z.cells T _ (e2 G) e3
  exact ⟨.pointer (some ⟨w.heap.size, 0, none⟩), _, _, by simp [Instr.alloc, e1, newVar, newRow], hle, hI', .ref _ _ w.heap.size (by simp [Ghost.addLoc])⟩
/-- A new variable that holds something: one that will never change, or (mu) another. -/
def abox (mu : Bool) (x : AV) (σ : St) : Option (AV × St) :=
  if x.cells.all flatAV = true then (if mu then some (.ref σ.objs.length 0, ⟨σ.objs ++ [x.cells], σ.opn⟩) else some (.fptr x.cells 0, σ)) else none
theorem abox_sound (hI : Inv w0 G w σ) {mu : Bool} {T : TypeId} {x : AV} {vx : Value} (hx : Rel G vx x) {a : AV} {σ' : St} (h : abox mu x σ = some (a, σ')) :
    ∃ v w' G', (Instr.box T vx).run P w = .ok v w' ∧ G.Le G' ∧ Inv w0 G' w' σ' ∧ Rel G' v a := by
  unfold abox at h
  split at h
  case isFalse => cases h
  rename_i hf
  obtain ⟨hr, h1⟩ := cells_flat hx hf
  split at h
  · simp at h
    obtain ⟨rfl, rfl⟩ := h
    obtain ⟨hle, hI'⟩ := hI.alloc_loc vx.cells T _ hr h1
    exact ⟨.pointer (some ⟨w.heap.size, 0, none⟩), _, _, by simp [Instr.box, newVar, newRow], hle, hI', .ref _ _ w.heap.size (by simp [Ghost.addLoc])⟩
  · simp at h
    obtain ⟨rfl, rfl⟩ := h
    obtain ⟨hle, hI'⟩ := hI.alloc_fz vx.cells T h1 (0, 0)
    refine ⟨.pointer (some ⟨w.heap.size, 0, none⟩), _, _, by simp [Instr.box, newVar, newRow], hle, hI', ?_⟩
    have hr' := hr.mono hle
    refine .fptr w.heap.size 0 0 x.cells (fun j => (vx.cells.toList[j]?).getD undef) (fun j a ha => ?_) (fun j a ha => ?_)
    · obtain ⟨u, hu, _⟩ := hr.get ha
      simp only [Ghost.addRow, if_true, Nat.zero_add]
      rw [hu]; rfl
    · obtain ⟨u, hu, hru⟩ := hr'.get ha
      rw [hu]
      exact hru
end
end Go.Va
