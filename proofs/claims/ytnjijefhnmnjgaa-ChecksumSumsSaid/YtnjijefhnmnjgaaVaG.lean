/- Fields, elements, cuts, literals. -/
import Derived.Test.YtnjijefhnmnjgaaVaF
import Derived.Great.BuildSlice
namespace Go.Va
open Go Go.RowKit
set_option linter.unusedVariables false
set_option linter.unusedSimpArgs false
section
variable {P : Program} {Ty : TypeId → Option TI} {w0 : World} {G : Ghost} {w : World} {σ : St}

def szOf (Ty : TypeId → Option TI) (T : TypeId) : Nat := match Ty T with | some i => i.sz | none => 0
/-- An address further on. -/
def amove (x : AV) (n : Nat) : Option AV :=
  match x with
  | .ref id off => some (.ref id (off + n))
  | .fptr x off => some (.fptr x (off + n))
  | _ => none
theorem amove_sound {x : AV} {vx : Value} (hx : Rel G vx x) {n : Nat} {a : AV} (h : amove x n = some a) : ∃ ad, vx = .pointer (some ad) ∧ Rel G (.pointer (some (ad.add n))) a := by
  unfold amove at h
  split at h
  · simp at h; subst h
    cases hx
    rename_i b hl
    exact ⟨_, rfl, by rw [Addr.add_lit]; exact .ref _ _ b hl⟩
  · simp at h; subst h
    cases hx
    rename_i x off b o val hf hr
    exact ⟨_, rfl, by rw [Addr.add_lit, Nat.add_assoc]; exact .fptr b o (off + n) x val hf hr⟩
  · cases h

def afieldAddr (Ty : TypeId → Option TI) (S : TypeId) (x : AV) (f : Nat) : Option AV :=
  match tdOf Ty S with
  | .struct fs => match fs[f]? with
    | some (o, t) => if szOf Ty t ≠ 0 then amove x o else none
    | none => none
  | _ => none
theorem field_of {fields : Array Field} {fs : List (Nat × TypeId)} (h : fields.toList.map (fun f => (f.offset, f.type)) = fs) {f o : Nat} {t : TypeId} (hf : fs[f]? = some (o, t)) : ∃ fd, fields[f]? = some fd ∧ fd.offset = o ∧ fd.type = t := by
  subst h
  rw [List.getElem?_map] at hf
  simp only [Option.map_eq_some_iff] at hf
  obtain ⟨fd, h1, h2⟩ := hf
  injection h2 with h2 h3
  exact ⟨fd, by simpa using h1, h2, h3⟩
theorem szOf_run (hT : TyOk P Ty) {t : TypeId} (h : szOf Ty t ≠ 0) (w : World) : (Go.sizeOf t).run P w = .ok (szOf Ty t) w := by
  unfold szOf at h ⊢
  split at h
  · rename_i i hi
    exact sizeOf_run hT hi w
  · exact absurd rfl h
theorem afieldAddr_sound (hT : TyOk P Ty) {S : TypeId} {x : AV} {vx : Value} (hx : Rel G vx x) {f : Nat} {a : AV} (h : afieldAddr Ty S x f = some a) : ∃ v, (Instr.fieldAt S vx f).run P w = .ok v w ∧ Rel G v a := by
  unfold afieldAddr at h
  split at h
  case h_2 => cases h
  rename_i fs hd
  split at h
  case h_2 => cases h
  rename_i o t hf
  split at h
  case isFalse => cases h
  rename_i hs
  obtain ⟨fields, hu, hfs⟩ := tdOf_ok hT hd (by simp)
  obtain ⟨fd, h1, rfl, rfl⟩ := field_of hfs hf
  obtain ⟨ad, rfl, hr⟩ := amove_sound hx h
  refine ⟨_, ?_, hr⟩
  simp [Instr.fieldAt, run_underlying hu, h1, Instr.sureAddr, fieldPlace, szOf_run (P := P) hT hs w, hs]
def afield (Ty : TypeId → Option TI) (S : TypeId) (x : AV) (f : Nat) : Option AV :=
  match tdOf Ty S, x with
  | .struct fs, .agg cs => match fs[f]? with
    | some (o, t) => acut Ty t cs o
    | none => none
  | _, _ => none
theorem afield_sound (hT : TyOk P Ty) {S : TypeId} {x : AV} {vx : Value} (hx : Rel G vx x) {f : Nat} {a : AV} (h : afield Ty S x f = some a) : ∃ v, (Instr.field S vx f).run P w = .ok v w ∧ Rel G v a := by
  unfold afield at h
  split at h
  case h_2 => cases h
  rename_i fs cs hd
  split at h
  case h_2 => cases h
  rename_i o t hf
  obtain ⟨fields, hu, hfs⟩ := tdOf_ok hT hd (by simp)
  obtain ⟨fd, h1, rfl, rfl⟩ := field_of hfs hf
  cases hx
  rename_i vs hl hr
  obtain ⟨v, h2, h3⟩ := acut_part (P := P) (w := w) hT h (cs := vs) ⟨by simpa using hl, fun i v a e1 e2 => hr i v a (by simpa using e1) e2⟩
  exact ⟨v, by simp [Instr.field, run_underlying hu, h1, asAgg, h2], h3⟩

def aindexAddr (Ty : TypeId → Option TI) (T : TypeId) (x ix : AV) : Option AV :=
  match ix, tdOf Ty T, x with
  | .int _ i, .slice e, .sl _ sz es => if 0 ≤ i ∧ sz = szOf Ty e ∧ sz ≠ 0 then (match es[i.toNat]? with | some y => some (.fptr y.cells 0) | none => none) else none
  | .int _ i, .slice e, .msl id off len => if 0 ≤ i ∧ i < len ∧ szOf Ty e ≠ 0 then some (.ref id (off + i.toNat * szOf Ty e)) else none
  | .int _ i, .arr n e, x => if 0 ≤ i ∧ i < n ∧ szOf Ty e ≠ 0 then amove x (i.toNat * szOf Ty e) else none
  | _, _, _ => none
theorem aindexAddr_sound (hT : TyOk P Ty) {T : TypeId} {x ix : AV} {vx vi : Value} (hx : Rel G vx x) (hi : Rel G vi ix) {a : AV} (h : aindexAddr Ty T x ix = some a) : ∃ v, (Instr.indexAt T vx vi).run P w = .ok v w ∧ Rel G v a := by
  unfold aindexAddr at h
  split at h
  · rename_i k i e t sz es hd
    split at h
    case isFalse => cases h
    rename_i hc
    obtain ⟨h0, rfl, hs⟩ := hc
    split at h
    case h_2 => cases h
    rename_i y hy
    simp at h
    subst h
    cases hi
    have hlt := (List.getElem?_eq_some_iff.1 hy).1
    have hu := tdOf_ok hT hd (by simp)
    cases hx with
    | sl0 A c t sz hm ht => simp at hlt
    | sl b o c t sz es val hc hm hz hf hr ht =>
      refine ⟨.pointer (some ⟨b, o + i.toNat * szOf Ty e, none⟩), ?_, ?_⟩
      · have hi' : i < (es.length : Int) := by omega
        simp only [Instr.indexAt, asIntOf]
        simp [run_underlying hu, h0, hi', szOf_run (P := P) hT hs w, Addr.add_lit]
      · have := Rel.fptr (G := G) b (o + i.toNat * szOf Ty e) 0 y.cells (fun j => val i.toNat j) (fun j a ha => hf _ y j a hy ha) (fun j a ha => hr _ y j a hy ha)
        simpa using this
  · rename_i k i e id off len hd
    split at h
    case isFalse => cases h
    rename_i hc
    obtain ⟨h0, h1, hs⟩ := hc
    simp at h
    subst h
    cases hi
    have hu := tdOf_ok hT hd (by simp)
    cases hx
    rename_i c b hl hlec
    refine ⟨.pointer (some ⟨b, off + i.toNat * szOf Ty e, none⟩), ?_, .ref _ _ b hl⟩
    simp only [Instr.indexAt, asIntOf]
    simp [run_underlying hu, h0, h1, szOf_run (P := P) hT hs w, Addr.add_lit]
  · rename_i n e hd
    split at h
    case isFalse => cases h
    rename_i hc
    obtain ⟨h0, h1, hs⟩ := hc
    cases hi
    have hu := tdOf_ok hT hd (by simp)
    obtain ⟨ad, rfl, hr⟩ := amove_sound hx h
    refine ⟨_, ?_, hr⟩
    simp only [Instr.indexAt, asIntOf]
    simp [run_underlying hu, h0, h1, szOf_run (P := P) hT hs w, Instr.sureAddr]
  · cases h

def aindex (Ty : TypeId → Option TI) (T : TypeId) (x ix : AV) : Option AV :=
  match ix, tdOf Ty T, x with
  | .int _ i, .arr n e, .agg cs => if 0 ≤ i ∧ i < n ∧ szOf Ty e ≠ 0 then acut Ty e cs (i.toNat * szOf Ty e) else none
  | .int _ i, .str, .str s => if 0 ≤ i then (match s.data.toList[i.toNat]? with | some b => some (.int .u8 b.toNat) | none => none) else none
  | _, _, _ => none
theorem aindex_sound (hT : TyOk P Ty) {T : TypeId} {x ix : AV} {vx vi : Value} (hx : Rel G vx x) (hi : Rel G vi ix) {a : AV} (h : aindex Ty T x ix = some a) : ∃ v, (Instr.index T vx vi).run P w = .ok v w ∧ Rel G v a := by
  unfold aindex at h
  split at h
  · rename_i k i n e cs hd
    split at h
    case isFalse => cases h
    rename_i hc
    obtain ⟨h0, h1, hs⟩ := hc
    cases hi; cases hx
    rename_i vs hl hr
    have hu := tdOf_ok hT hd (by simp)
    obtain ⟨v, h2, h3⟩ := acut_part (P := P) (w := w) hT h (cs := vs) ⟨by simpa using hl, fun i v a e1 e2 => hr i v a (by simpa using e1) e2⟩
    refine ⟨v, ?_, h3⟩
    simp only [Instr.index, asIntOf]
    simp [run_underlying hu, h0, h1, szOf_run (P := P) hT hs w, h2]
  · rename_i k i s hd
    split at h
    case isFalse => cases h
    rename_i h0
    split at h
    case h_2 => cases h
    rename_i b hb
    simp at h
    subst h
    cases hi; cases hx
    have hu := tdOf_ok hT hd (by simp)
    have hb' : s[i.toNat]? = some b := by
      obtain ⟨hlt, he⟩ := List.getElem?_eq_some_iff.1 hb
      have hlt' : i.toNat < s.size := by simpa using hlt
      rw [getElem?_pos s i.toNat hlt', ← he]
      rfl
    refine ⟨_, ?_, .int _ _⟩
    simp only [Instr.index, asIntOf]
    simp [run_underlying hu, h0, hb']
  · cases h
end
end Go.Va
