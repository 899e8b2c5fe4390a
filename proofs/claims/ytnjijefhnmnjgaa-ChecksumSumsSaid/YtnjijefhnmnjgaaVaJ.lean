/- The rest of the operations; an operation as a whole. -/
import Derived.Test.YtnjijefhnmnjgaaVaI
namespace Go.Va
open Go Go.RowKit
set_option linter.unusedVariables false
set_option linter.unusedSimpArgs false
section
variable {P : Program} {Ty : TypeId → Option TI} {w0 : World} {G : Ghost} {w : World} {σ : St}

theorem bytesWorld_eq (w : World) (e : TypeId) (s : ByteArray) : Lib.bytesWorld w e s = w.drew.alloc (.cells (Lib.bytesCells w e s) e ((Lib.bytesCells w e s).size, (Lib.bytesCells w e s).size + 1)) := by
  have h1 : ∀ k : Nat, (Lib.bytesWorld w e s).heap[k]? = (w.drew.alloc (.cells (Lib.bytesCells w e s) e ((Lib.bytesCells w e s).size, (Lib.bytesCells w e s).size + 1))).heap[k]? := by
    intro k
    rcases Nat.lt_trichotomy k w.heap.size with h | h | h
    · rw [Lib.bytesWorld_at_old w e s k h]
      exact (heap_alloc_old w.drew _ k h).symm
    · subst h
      rw [Lib.bytesWorld_at_new]
      exact (heap_alloc_new w.drew _).symm
    · rw [Array.getElem?_eq_none (by rw [Lib.bytesWorld_size]; omega), Array.getElem?_eq_none (by simp; omega)]
  have h2 := Array.ext_getElem? h1
  unfold Lib.bytesWorld World.freeze at h2 ⊢
  simp only [show (1 : Nat) ≠ 0 by decide, if_false] at h2 ⊢
  simp only [World.alloc, World.drew] at h2 ⊢
  rw [h2]

/-- Bytes as a string. -/
def isByte : AV → Bool
  | .int .u8 _ => true
  | _ => false
def byteOf : AV → Int
  | .int _ n => n
  | _ => 0
def strOf (es : List AV) : ByteArray := ⟨(es.map fun e => UInt8.ofNat (byteOf e).toNat).toArray⟩
def aconvM (Ty : TypeId → Option TI) (src dst : TypeId) (x : AV) : Option AV :=
  match tdOf Ty src, tdOf Ty dst, x with
  | .str, .slice e, .str s => match tdOf Ty e with | .int .u8 => if s.size ≤ 140737488355328 then some (.sl .no 1 (byteAVs s)) else none | _ => none
  | .slice e, .str, .nils => match tdOf Ty e with | .int .u8 => some (.str ByteArray.empty) | _ => none
  | .slice e, .str, .sl _ sz es => match tdOf Ty e with | .int .u8 => if sz = 1 ∧ es.all isByte = true then some (.str (strOf es)) else none | _ => none
  | .slice _, .slice e, .sl .full sz (y :: ys) => match tdOf Ty e with | .int .u8 => if src = dst then some (.sl .full sz (y :: ys)) else none | _ => none
  | _, _, _ => none
theorem foldl_push (ns : List Int) : ∀ (r : ByteArray), ns.foldl (fun (r : ByteArray) n => r.push (UInt8.ofNat n.toNat)) r = ⟨(r.data.toList ++ ns.map fun n => UInt8.ofNat n.toNat).toArray⟩ := by
  induction ns with
  | nil => intro r; cases r; simp
  | cons n ns ih =>
    intro r
    rw [List.foldl_cons, ih]
    cases r
    simp [ByteArray.push]
theorem freeze_heap (w : World) (b n : Nat) (k : Nat) (hk : k ≠ b) : (w.freeze ⟨b, n, none⟩ 1).heap[k]? = w.heap[k]? := by
  simp only [World.freeze]
  rw [if_neg (by decide)]
  simp only [Array.getElem?_modify]
  rw [if_neg (Ne.symm hk)]
theorem freeze_size (w : World) (b n : Nat) : (w.freeze ⟨b, n, none⟩ 1).heap.size = w.heap.size := by
  simp only [World.freeze]
  rw [if_neg (by decide)]
  simp
theorem freeze_cell (w : World) (b n : Nat) (a : Addr) : (w.freeze ⟨b, n, none⟩ 1).cell? a = w.cell? a := by
  by_cases hk : a.block = b
  · simp only [World.cell?, World.freeze]
    rw [if_neg (by decide)]
    simp only [Array.getElem?_modify, hk, if_true]
    cases w.heap[b]? with
    | none => rfl
    | some o => 
      obtain ⟨c, e, lo, hi⟩ | _ := o <;> rfl
  · simp only [World.cell?]
    rw [freeze_heap w b n a.block hk]
theorem Inv.mark {w0 : World} {G : Ghost} {w : World} {σ : St} (h : Inv w0 G w σ) {b : Nat} (hb : G.lit b = true) (n : Nat) : Inv w0 G (w.freeze ⟨b, n, none⟩ 1) σ := by
  obtain ⟨k1, k2, k3, k4⟩ := h.lit b hb
  have hz := freeze_size w b n
  refine ⟨⟨?_, ?_, ?_, by rw [hz]; exact h.below.size, fun k hk => ?_⟩, fun x o v hf => ⟨by rw [freeze_cell]; exact (h.fz x o v hf).1, (h.fz x o v hf).2⟩, fun id c hc => ?_, h.locfz, h.locdom, h.locinj, fun t x top en ho ht => ?_, h.tokdom, h.tokinj, h.nt, fun x hx => ?_⟩
  · rw [← h.below.os]; simp only [World.freeze]; rw [if_neg (by decide)]
  · rw [← h.below.tape]; simp only [World.freeze]; rw [if_neg (by decide)]
  · rw [← h.below.output]; simp only [World.freeze]; rw [if_neg (by decide)]
  · rw [freeze_heap w b n k (by omega)]; exact h.below.block k hk
  · obtain ⟨b', T', vs', e1, e2, e3, e4, e5⟩ := h.loc id c hc
    exact ⟨b', T', vs', e1, e2, by rw [freeze_heap w b n b' (fun he => k3 id (he ▸ e1))]; exact e3, e4, e5⟩
  · obtain ⟨e1, ⟨cs, T', e2, e3⟩, e4, e5⟩ := h.tok t x top en ho ht
    exact ⟨e1, ⟨cs, T', by rw [freeze_heap w b n x (k4 t _ ho ht)]; exact e2, e3⟩, e4, e5⟩
  · rw [hz]; exact h.lit x hx
theorem aconvM_sound (hT : TyOk P Ty) (hI : Inv w0 G w σ) {src dst : TypeId} {x : AV} {vx : Value} (hx : Rel G vx x) {a : AV} (h : aconvM Ty src dst x = some a) :
    ∃ v w' G', (convert src dst vx).run P w = .ok v w' ∧ G.Le G' ∧ Inv w0 G' w' σ ∧ Rel G' v a := by
  unfold aconvM at h
  split at h
  · rename_i e s hs hd
    split at h
    case h_2 => cases h
    rename_i he
    split at h
    case isFalse => cases h
    rename_i hsz
    simp at h
    subst h
    cases hx
    have hrun := Lib.run_convert_string_bytes (P := P) w src dst e s (tdOf_ok hT hs (by simp)) (tdOf_ok hT hd (by simp)) (tdOf_ok hT he (by simp))
    rw [bytesWorld_eq] at hrun
    have hcs : (Lib.bytesCells w e s).toList = byteCells s ++ List.replicate (grownCap w s.size 0 e - s.size) (.int .u8 0) := by
      simp [Lib.bytesCells, byteCells]
    obtain ⟨hle, hI'⟩ := hI.drew.alloc_fz (Lib.bytesCells w e s) e (fun u hu => by
      rw [hcs, List.mem_append] at hu
      rcases hu with hu | hu
      · obtain ⟨b, _, rfl⟩ := List.mem_map.1 hu; rfl
      · rw [(List.mem_replicate.1 hu).2]; rfl) ((Lib.bytesCells w e s).size, (Lib.bytesCells w e s).size + 1)
    refine ⟨_, _, _, hrun, hle, hI', ?_⟩
    have hbl : (byteAVs s).length = s.size := by rw [byteAVs, List.length_map, Array.length_toList]; rfl
    have h1 : ∀ a ∈ byteAVs s, a.cells = [a] := fun a ha => by
      obtain ⟨b, _, rfl⟩ := List.mem_map.1 ha
      rfl
    have hge := grownCap_ge w s.size 0 e
    have hcm := grownCap_le_maxLen w s.size 0 e (by simp only [maxLen]; omega)
    rw [← hbl]
    refine Rel.mkSl (news := byteCells s) (by rw [hbl]; exact hge) (by rw [hbl]; exact hcm) (fun e he => by rw [h1 e he]; rfl) ?_ (fun j u hu => ?_) trivial
    · rw [flat_one h1]
      refine ⟨by rw [byteCells_length, hbl], fun i v a h2 h3 => ?_⟩
      unfold byteCells at h2
      unfold byteAVs at h3
      rw [List.getElem?_map] at h2 h3
      cases hb : s.data.toList[i]? with
      | none => rw [hb] at h2; cases h2
      | some b => rw [hb] at h2 h3; cases h2; cases h3; exact .int _ _
    · simp only [Ghost.addRow, World.size_drew, if_true, Nat.zero_add]
      rw [hcs, List.getElem?_append_left (List.getElem?_eq_some_iff.1 hu).1]
      exact hu
  · rename_i e hs hd
    split at h
    case h_2 => cases h
    rename_i he
    simp at h
    subst h
    cases hx
    refine ⟨_, w, G, ?_, .refl G, hI, .str _⟩
    simp [convert, run_underlying (tdOf_ok hT hs (by simp)), run_underlying (tdOf_ok hT hd (by simp)), run_underlying (tdOf_ok hT he (by simp)), Conv.bytesToString]
  · rename_i e t sz es hs hd
    split at h
    case h_2 => cases h
    rename_i he
    split at h
    case isFalse => cases h
    rename_i hc
    obtain ⟨rfl, hall⟩ := hc
    simp at h
    subst h
    obtain ⟨A, c, news, hR⟩ := hx.row
    have hfl : flat es = es := flat_one (fun a ha => by
      rw [List.all_eq_true] at hall
      have := hall a ha
      cases a <;> first | rfl | simp [isByte] at this)
    have hrel := hR.rel
    rw [hfl] at hrel
    have hnews : news = (es.map byteOf).map (Value.int .u8) := by
      apply List.ext_getElem?
      intro j
      by_cases hj : j < es.length
      · obtain ⟨u, hu, hru⟩ := hrel.get (List.getElem?_eq_getElem hj)
        rw [hu, List.getElem?_map, List.getElem?_map, List.getElem?_eq_getElem hj]
        rw [List.all_eq_true] at hall
        have hb := hall _ (List.getElem_mem hj)
        revert hru hb
        generalize es[j] = x
        intro hru hb
        cases hru with
        | int k n => cases k <;> first | rfl | (exact absurd hb Bool.false_ne_true)
        | _ => exact absurd hb Bool.false_ne_true
      · rw [List.getElem?_eq_none (by rw [hrel.len]; omega), List.getElem?_eq_none (by simp; omega)]
    refine ⟨.string (strOf es), w, G, ?_, .refl G, hI, .str _⟩
    have hstr : strOf es = (es.map byteOf).foldl (fun (r : ByteArray) n => r.push (UInt8.ofNat n.toNat)) ByteArray.empty := by
      rw [foldl_push]
      simp [strOf, List.map_map]
    rw [hR.val]
    have hsrc := hR.src hI (tdOf_ok hT hs (by simp))
    have hconv : (Conv.bytesToString (.slice A es.length c)).run P w = .ok (.string (strOf es)) w := by
      cases A with
      | none =>
        have h0 : es.length = 0 := by
          rcases Nat.eq_zero_or_pos es.length with h0 | h0
          · exact h0
          · obtain ⟨b, o, he, _⟩ := hR.at_ h0; cases he
        have : es = [] := List.eq_nil_of_length_eq_zero h0
        subst this
        rfl
      | some ad =>
        rw [hstr]
        refine run_bytesToString w ad es.length c (es.map byteOf) ?_
        have hld := run_loadCells_list (P := P) (w := w) ad news (fun j u hu => by
          have hp : 0 < es.length := by
            have := (List.getElem?_eq_some_iff.1 hu).1
            rw [hrel.len] at this
            omega
          obtain ⟨b, o, he, hf⟩ := hR.at_ hp
          injection he with he
          subst he
          rw [Addr.add_lit]
          exact (hI.fz b _ u (hf j u hu)).1)
        rw [hrel.len] at hld
        rw [hld, hnews]
    cases A <;> simp [convert, run_underlying (tdOf_ok hT hs (by simp)), run_underlying (tdOf_ok hT hd (by simp)), run_underlying (tdOf_ok hT he (by simp)), hconv]
  · rename_i e e' sz y ys hs hd
    split at h
    case h_2 => cases h
    rename_i he
    split at h
    case isFalse => cases h
    rename_i heq
    subst heq
    obtain rfl : e = e' := by rw [hs] at hd; injection hd
    simp at h
    subst h
    have hr := hx
    cases hx with
    | sl b o c t sz es val hc hm hz hf h ht =>
      cases hsh : w.shape? b with
      | none =>
        refine ⟨_, w, G, ?_, .refl G, hI, hr⟩
        simp [convert, run_underlying (tdOf_ok hT hs (by simp)), run_underlying (tdOf_ok hT hd (by simp)), run_underlying (tdOf_ok hT he (by simp)), markStringish, hsh]
      | some x =>
        refine ⟨_, w.freeze ⟨b, x.2, none⟩ 1, G, ?_, .refl G, hI.mark ht.2 x.2, hr⟩
        simp [convert, run_underlying (tdOf_ok hT hs (by simp)), run_underlying (tdOf_ok hT hd (by simp)), run_underlying (tdOf_ok hT he (by simp)), markStringish, hsh]
  · cases h

def alen (Ty : TypeId → Option TI) (T : TypeId) (x : AV) : Option AV :=
  match tdOf Ty T, x with
  | .str, .str s => some (.int .i64 s.size)
  | .slice _, .sl _ _ es => some (.int .i64 es.length)
  | .slice _, .nils => some (.int .i64 0)
  | .slice _, .msl _ _ len => some (.int .i64 len)
  | .arr n _, _ => some (.int .i64 n)
  | _, _ => none
theorem alen_sound (hT : TyOk P Ty) {T : TypeId} {ts : List TypeId} {ty : TypeId} {x : AV} {vx : Value} (hx : Rel G vx x) {a : AV} (h : alen Ty T x = some a) : ∃ v, (Builtin.len_ (T :: ts).toArray ty #[vx]).run P w = .ok v w ∧ Rel G v a := by
  unfold alen at h
  split at h
  · rename_i s hd
    simp at h; subst h; cases hx
    exact ⟨_, by simp [Builtin.len_, run_underlying (tdOf_ok hT hd (by simp)), goInt], .int _ _⟩
  · rename_i e t sz es hd
    simp at h; subst h
    obtain ⟨A, c, news, hR⟩ := hx.row
    rw [hR.val]
    exact ⟨_, by simp [Builtin.len_, run_underlying (tdOf_ok hT hd (by simp)), goInt], .int _ _⟩
  · rename_i e hd
    simp at h; subst h; cases hx
    exact ⟨_, by simp [Builtin.len_, run_underlying (tdOf_ok hT hd (by simp)), goInt], .int _ _⟩
  · rename_i e id off len hd
    simp at h; subst h; cases hx
    exact ⟨_, by simp [Builtin.len_, run_underlying (tdOf_ok hT hd (by simp)), goInt], .int _ _⟩
  · rename_i n e hd
    simp at h; subst h
    exact ⟨_, by simp [Builtin.len_, run_underlying (tdOf_ok hT hd (by simp)), goInt], .int _ _⟩
  · cases h

def aarrAt (Ty : TypeId → Option TI) (T : TypeId) (x : AV) : Option AV :=
  match tdOf Ty T, x with
  | .arr n e, .sl _ sz es => if 0 < n ∧ n ≤ es.length ∧ sz = szOf Ty e then some (.fptr (flat (es.take n)) 0) else none
  | _, _ => none
theorem aarrAt_sound (hT : TyOk P Ty) {T : TypeId} {x : AV} {vx : Value} (hx : Rel G vx x) {a : AV} (h : aarrAt Ty T x = some a) : ∃ v, (Instr.arrayAt T vx).run P w = .ok v w ∧ Rel G v a := by
  unfold aarrAt at h
  split at h
  case h_2 => cases h
  rename_i n e t sz es hd
  split at h
  case isFalse => cases h
  rename_i hc
  obtain ⟨c1, c2, rfl⟩ := hc
  simp at h; subst h
  obtain ⟨A, c, news, hR⟩ := hx.row
  obtain ⟨b, o, rfl, hf⟩ := hR.at_ (by omega)
  rw [hR.val]
  have hlt : ¬ es.length < n := by omega
  refine ⟨.pointer (some ⟨b, o + 0, none⟩), by simp [Instr.arrayAt, run_underlying (tdOf_ok hT hd (by simp)), hlt], ?_⟩
  have hpre : ∀ (j : Nat) (a : AV), (flat (es.take n))[j]? = some a → (flat es)[j]? = some a := fun j a ha => by
    have : flat es = flat (es.take n) ++ flat (es.drop n) := by rw [← flat_append, List.take_append_drop]
    rw [this, List.getElem?_append_left (List.getElem?_eq_some_iff.1 ha).1]
    exact ha
  refine .fptr b o 0 _ (fun j => (news[j]?).getD undef) (fun j a ha => ?_) (fun j a ha => ?_)
  · obtain ⟨u, hu, _⟩ := hR.rel.get (hpre j a ha)
    rw [hu]; exact hf j u hu
  · obtain ⟨u, hu, hru⟩ := hR.rel.get (hpre j a ha)
    rw [hu]; exact hru
end
end Go.Va
