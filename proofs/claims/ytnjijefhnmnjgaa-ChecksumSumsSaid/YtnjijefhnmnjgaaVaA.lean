/- Abstract values, the relation to the model's values, and the invariant between a world and an abstract state. -/
import Derived.Below
import Derived.Calls
import Derived.Deep.Upon
import Derived.Laws.World
import Derived.Laws.Rows
import Derived.Laws.Entries
namespace Go.Va
open Go Go.RowKit
set_option linter.unusedVariables false
set_option linter.unusedSimpArgs false

/-- What is known of the room behind a slice: nothing; that there is none; that a token stands for it. -/
inductive Tok where
  | no
  | full
  | own (t : Nat)
  deriving DecidableEq, Inhabited

/-- Abstract values. 'sl': a slice whose elements will never change; 'fptr': an address inside such a thing; 'ref', 'msl': into a variable of the abstract store. -/
inductive AV where
  | junk
  | int (k : IntKind) (n : Int)
  | bool (b : Bool)
  | str (s : ByteArray)
  | nilp
  | nils
  | nilm
  | nilf
  | nili
  | agg (cs : List AV)
  | tup (vs : List AV)
  | sl (t : Tok) (sz : Nat) (es : List AV)
  | fptr (x : List AV) (off : Nat)
  | ref (id off : Nat)
  | msl (id off len : Nat)
  | iface (t : TypeId) (v : AV)
  | fn (f : Fn) (first captured : List AV)
  deriving Inhabited

/-- The cells of a value. -/
def AV.cells : AV → List AV
  | .agg cs => cs
  | v => [v]

/-- What is known of a world beside the abstract state: cells that never change; the block of a variable; the end of an open row (block, first free cell, end). -/
structure Ghost where
  fz : Nat → Nat → Option Value
  loc : Nat → Option Nat
  tok : Nat → Option (Nat × Nat × Nat)
  nt : Nat
  lit : Nat → Bool

structure Ghost.Le (G G' : Ghost) : Prop where
  fz : ∀ b o v, G.fz b o = some v → G'.fz b o = some v
  loc : ∀ i b, G.loc i = some b → G'.loc i = some b
  tok : ∀ t x, G.tok t = some x → G'.tok t = some x
  nt : G.nt ≤ G'.nt
  lit : ∀ b, G.lit b = true → G'.lit b = true

theorem Ghost.Le.refl (G : Ghost) : G.Le G := ⟨fun _ _ _ h => h, fun _ _ h => h, fun _ _ h => h, Nat.le_refl _, fun _ h => h⟩
theorem Ghost.Le.trans {a b c : Ghost} (h : a.Le b) (k : b.Le c) : a.Le c :=
  ⟨fun x o v e => k.fz x o v (h.fz x o v e), fun i x e => k.loc i x (h.loc i x e), fun t x e => k.tok t x (h.tok t x e), Nat.le_trans h.nt k.nt, fun b e => k.lit b (h.lit b e)⟩

def TokOk (G : Ghost) : Tok → (b o n c sz : Nat) → Prop
  | .no, _, _, _, _, _ => True
  | .full, b, _, n, c, _ => n = c ∧ G.lit b = true
  | .own t, b, o, n, c, sz => t < G.nt ∧ (n = c ∨ G.tok t = some (b, o + n * sz, o + c * sz))
/-- The token is one that there has been. -/
def TokIn (G : Ghost) : Tok → Prop
  | .own t => t < G.nt
  | _ => True
theorem TokIn.mono {G G' : Ghost} (h : G.Le G') {t : Tok} (k : TokIn G t) : TokIn G' t := by
  cases t with
  | own t => exact Nat.lt_of_lt_of_le k h.nt
  | _ => trivial
theorem TokOk.in_ {G : Ghost} {t : Tok} {b o n c sz : Nat} (k : TokOk G t b o n c sz) : TokIn G t := by
  cases t with
  | own t => exact k.1
  | _ => trivial

theorem TokOk.mono {G G' : Ghost} (h : G.Le G') {t : Tok} {b o n c sz : Nat} (k : TokOk G t b o n c sz) : TokOk G' t b o n c sz := by
  cases t with
  | no => trivial
  | full => exact ⟨k.1, h.lit _ k.2⟩
  | own t => exact ⟨Nat.lt_of_lt_of_le k.1 h.nt, k.2.imp id (h.tok _ _)⟩

inductive Rel (G : Ghost) : Value → AV → Prop where
  | junk (v : Value) : Rel G v .junk
  | int (k : IntKind) (n : Int) : Rel G (.int k n) (.int k n)
  | bool (b : Bool) : Rel G (.bool b) (.bool b)
  | str (s : ByteArray) : Rel G (.string s) (.str s)
  | nilp : Rel G (.pointer none) .nilp
  | nils : Rel G (.slice none 0 0) .nils
  | nilm : Rel G (.map none) .nilm
  | nilf : Rel G .nilFunc .nilf
  | nili : Rel G .nilIface .nili
  | agg (vs : Array Value) (as : List AV) (hl : vs.size = as.length) (h : ∀ (i : Nat) (v : Value) (a : AV), vs[i]? = some v → as[i]? = some a → Rel G v a) : Rel G (.agg vs) (.agg as)
  | tup (vs : Array Value) (as : List AV) (hl : vs.size = as.length) (h : ∀ (i : Nat) (v : Value) (a : AV), vs[i]? = some v → as[i]? = some a → Rel G v a) : Rel G (.tuple vs) (.tup as)
  | sl (b o c : Nat) (t : Tok) (sz : Nat) (es : List AV) (val : Nat → Nat → Value) (hc : es.length ≤ c) (hm : c ≤ maxLen) (hz : ∀ e ∈ es, e.cells.length = sz)
      (hf : ∀ (i : Nat) (e : AV) (j : Nat) (a : AV), es[i]? = some e → e.cells[j]? = some a → G.fz b (o + i * sz + j) = some (val i j))
      (h : ∀ (i : Nat) (e : AV) (j : Nat) (a : AV), es[i]? = some e → e.cells[j]? = some a → Rel G (val i j) a) (ht : TokOk G t b o es.length c sz) : Rel G (.slice (some ⟨b, o, none⟩) es.length c) (.sl t sz es)
  | sl0 (A : Option Addr) (c : Nat) (t : Tok) (sz : Nat) (hm : c ≤ maxLen) (ht : t = .no ∨ (c = 0 ∧ TokIn G t)) : Rel G (.slice A 0 c) (.sl t sz [])
  | fptr (b o off : Nat) (x : List AV) (val : Nat → Value) (hf : ∀ (j : Nat) (a : AV), x[j]? = some a → G.fz b (o + j) = some (val j)) (h : ∀ (j : Nat) (a : AV), x[j]? = some a → Rel G (val j) a) :
      Rel G (.pointer (some ⟨b, o + off, none⟩)) (.fptr x off)
  | ref (id off b : Nat) (h : G.loc id = some b) : Rel G (.pointer (some ⟨b, off, none⟩)) (.ref id off)
  | msl (id off len c b : Nat) (hc : len ≤ c) (h : G.loc id = some b) : Rel G (.slice (some ⟨b, off, none⟩) len c) (.msl id off len)
  | iface (t : TypeId) (v : Value) (a : AV) (h : Rel G v a) : Rel G (.iface t v) (.iface t a)
  | fn (f : Fn) (fs cs : Array Value) (fa ca : List AV) (hl : fs.size = fa.length) (hk : cs.size = ca.length) (h : ∀ (i : Nat) (v : Value) (a : AV), fs[i]? = some v → fa[i]? = some a → Rel G v a) (h' : ∀ (i : Nat) (v : Value) (a : AV), cs[i]? = some v → ca[i]? = some a → Rel G v a) :
      Rel G (.func f fs cs) (.fn f fa ca)

theorem Rel.mono {G G' : Ghost} (hG : G.Le G') {v : Value} {a : AV} (h : Rel G v a) : Rel G' v a := by
  induction h with
  | junk v => exact .junk v
  | int k n => exact .int k n
  | bool b => exact .bool b
  | str s => exact .str s
  | nilp => exact .nilp
  | nils => exact .nils
  | nilm => exact .nilm
  | nilf => exact .nilf
  | nili => exact .nili
  | agg vs as hl _ ih => exact .agg vs as hl ih
  | tup vs as hl _ ih => exact .tup vs as hl ih
  | sl b o c t sz es val hc hm hz hf _ ht ih => exact .sl b o c t sz es val hc hm hz (fun i e j a h1 h2 => hG.fz _ _ _ (hf i e j a h1 h2)) ih (ht.mono hG)
  | sl0 A c t sz hm ht => exact .sl0 A c t sz hm (ht.imp id fun h => ⟨h.1, h.2.mono hG⟩)
  | fptr b o off x val hf _ ih => exact .fptr b o off x val (fun j a h1 => hG.fz _ _ _ (hf j a h1)) ih
  | ref id off b h => exact .ref id off b (hG.loc _ _ h)
  | msl id off len c b hc h => exact .msl id off len c b hc (hG.loc _ _ h)
  | iface t v a _ ih => exact .iface t v a ih
  | fn f fs cs fa ca hl hk _ _ ih1 ih2 => exact .fn f fs cs fa ca hl hk ih1 ih2

/-- Values side by side. -/
structure RelL (G : Ghost) (vs : List Value) (as : List AV) : Prop where
  len : vs.length = as.length
  at_ : ∀ (i : Nat) (v : Value) (a : AV), vs[i]? = some v → as[i]? = some a → Rel G v a

theorem RelL.mono {G G' : Ghost} (hG : G.Le G') {vs : List Value} {as : List AV} (h : RelL G vs as) : RelL G' vs as := ⟨h.len, fun i v a h1 h2 => (h.at_ i v a h1 h2).mono hG⟩
theorem RelL.nil (G : Ghost) : RelL G [] [] := ⟨rfl, fun i v a h => by simp at h⟩
theorem RelL.cons {G : Ghost} {v : Value} {a : AV} {vs : List Value} {as : List AV} (h : Rel G v a) (hs : RelL G vs as) : RelL G (v :: vs) (a :: as) :=
  ⟨by simp [hs.len], fun i v' a' h1 h2 => by
    cases i with
    | zero => simp at h1 h2; subst h1; subst h2; exact h
    | succ i => exact hs.at_ i v' a' (by simpa using h1) (by simpa using h2)⟩
theorem RelL.append {G : Ghost} {vs ws : List Value} {as bs : List AV} (h : RelL G vs as) (k : RelL G ws bs) : RelL G (vs ++ ws) (as ++ bs) :=
  ⟨by simp [h.len, k.len], fun i v a h1 h2 => by
    by_cases hi : i < vs.length
    · rw [List.getElem?_append_left hi] at h1
      rw [List.getElem?_append_left (by rw [← h.len]; exact hi)] at h2
      exact h.at_ i v a h1 h2
    · rw [List.getElem?_append_right (by omega)] at h1
      rw [List.getElem?_append_right (by rw [← h.len]; omega), ← h.len] at h2
      exact k.at_ _ v a h1 h2⟩
theorem RelL.get {G : Ghost} {vs : List Value} {as : List AV} (h : RelL G vs as) {i : Nat} {a : AV} (ha : as[i]? = some a) : ∃ v, vs[i]? = some v ∧ Rel G v a := by
  have hi : i < as.length := (List.getElem?_eq_some_iff.1 ha).1
  have hi' : i < vs.length := by rw [h.len]; exact hi
  exact ⟨vs[i], List.getElem?_eq_getElem hi', h.at_ i _ a (List.getElem?_eq_getElem hi') ha⟩
theorem RelL.take {G : Ghost} {vs : List Value} {as : List AV} (h : RelL G vs as) (n : Nat) : RelL G (vs.take n) (as.take n) :=
  ⟨by simp [h.len], fun i v a h1 h2 => by
    rw [List.getElem?_take] at h1 h2
    split at h1 <;> simp_all
    exact h.at_ i v a h1 h2⟩
theorem RelL.drop {G : Ghost} {vs : List Value} {as : List AV} (h : RelL G vs as) (n : Nat) : RelL G (vs.drop n) (as.drop n) :=
  ⟨by simp [h.len], fun i v a h1 h2 => h.at_ (n + i) v a (by simpa using h1) (by simpa using h2)⟩
theorem RelL.set {G : Ghost} {vs : List Value} {as : List AV} (h : RelL G vs as) (n : Nat) {v : Value} {a : AV} (hv : Rel G v a) : RelL G (vs.set n v) (as.set n a) :=
  ⟨by simp [h.len], fun i v' a' h1 h2 => by
    rw [List.getElem?_set] at h1 h2
    by_cases hn : n = i
    · subst hn
      simp only [if_true] at h1 h2
      split at h1 <;> simp_all
    · simp only [hn, if_false] at h1 h2
      exact h.at_ i v' a' h1 h2⟩

theorem rel_cells {G : Ghost} {v : Value} {a : AV} (h : Rel G v a) (ha : a ≠ .junk) : RelL G v.cells.toList a.cells := by
  cases h with
  | agg vs as hl h => exact ⟨by simpa [Value.cells, AV.cells] using hl, fun i v a h1 h2 => h i v a (by simpa [Value.cells] using h1) (by simpa [AV.cells] using h2)⟩
  | junk => exact absurd rfl ha
  | int k n => exact (RelL.nil G).cons (.int k n)
  | bool b => exact (RelL.nil G).cons (.bool b)
  | str s => exact (RelL.nil G).cons (.str s)
  | nilp => exact (RelL.nil G).cons .nilp
  | nils => exact (RelL.nil G).cons .nils
  | nilm => exact (RelL.nil G).cons .nilm
  | nilf => exact (RelL.nil G).cons .nilf
  | nili => exact (RelL.nil G).cons .nili
  | tup vs as hl h => exact (RelL.nil G).cons (.tup vs as hl h)
  | sl b o c t sz es val hc hm hz hf h ht => exact (RelL.nil G).cons (.sl b o c t sz es val hc hm hz hf h ht)
  | sl0 A c t sz hm ht => exact (RelL.nil G).cons (.sl0 A c t sz hm ht)
  | fptr b o off x val hf h => exact (RelL.nil G).cons (.fptr b o off x val hf h)
  | ref id off b h => exact (RelL.nil G).cons (.ref id off b h)
  | msl id off len c b hc h => exact (RelL.nil G).cons (.msl id off len c b hc h)
  | iface t v a h => exact (RelL.nil G).cons (.iface t v a h)
  | fn f fs cs fa ca hl hk h h' => exact (RelL.nil G).cons (.fn f fs cs fa ca hl hk h h')

/-- The abstract state: the variables' cells; which tokens are open. -/
structure St where
  objs : List (List AV)
  opn : List Bool

/-- THE INVARIANT between a world and an abstract state; w0: the world in which all began. -/
structure Inv (w0 : World) (G : Ghost) (w : World) (σ : St) : Prop where
  below : Below w0.heap.size w0 w
  fz : ∀ b o v, G.fz b o = some v → w.cell? ⟨b, o, none⟩ = some v ∧ v.oneCell' = true
  loc : ∀ (id : Nat) (cells : List AV), σ.objs[id]? = some cells → ∃ b T vs, G.loc id = some b ∧ w0.heap.size ≤ b ∧ w.heap[b]? = some (.cells vs T (0, 0)) ∧ RelL G vs.toList cells ∧ (∀ v ∈ vs.toList, v.oneCell' = true)
  locfz : ∀ id b o, G.loc id = some b → G.fz b o = none
  locdom : ∀ id b, G.loc id = some b → id < σ.objs.length
  locinj : ∀ i j b, G.loc i = some b → G.loc j = some b → i = j
  tok : ∀ t b top en, σ.opn[t]? = some true → G.tok t = some (b, top, en) → w0.heap.size ≤ b ∧ (∃ cs T, w.heap[b]? = some (.cells cs T (0, 0)) ∧ en ≤ cs.size) ∧ (∀ o, top ≤ o → G.fz b o = none) ∧ (∀ id, G.loc id ≠ some b)
  tokdom : ∀ t x, G.tok t = some x → t < σ.opn.length
  tokinj : ∀ t t' x x', σ.opn[t]? = some true → σ.opn[t']? = some true → G.tok t = some x → G.tok t' = some x' → x.1 = x'.1 → t = t'
  nt : G.nt ≤ σ.opn.length
  lit : ∀ b, G.lit b = true → w0.heap.size ≤ b ∧ b < w.heap.size ∧ (∀ id, G.loc id ≠ some b) ∧ (∀ t x, σ.opn[t]? = some true → G.tok t = some x → x.1 ≠ b)

theorem Inv.fzlt {w0 : World} {G : Ghost} {w : World} {σ : St} (h : Inv w0 G w σ) {b o : Nat} {v : Value} (hf : G.fz b o = some v) : b < w.heap.size :=
  World.block_lt_of_cell? w ⟨b, o, none⟩ (h.fz b o v hf).1
theorem Inv.loclt {w0 : World} {G : Ghost} {w : World} {σ : St} (h : Inv w0 G w σ) {id b : Nat} (hf : G.loc id = some b) : b < w.heap.size := by
  obtain ⟨b', T, vs, h1, _, h2, _⟩ := h.loc id _ (List.getElem?_eq_getElem (h.locdom id b hf))
  rw [hf] at h1
  injection h1 with h1
  subst h1
  exact (Array.getElem?_eq_some_iff.1 h2).1

/-- A draw turns nothing. -/
theorem Inv.drew {w0 : World} {G : Ghost} {w : World} {σ : St} (h : Inv w0 G w σ) : Inv w0 G w.drew σ :=
  ⟨h.below.drew, h.fz, h.loc, h.locfz, h.locdom, h.locinj, h.tok, h.tokdom, h.tokinj, h.nt, h.lit⟩

/-- A frame of slots. -/
def FrameRel (G : Ghost) (tmps : Array Value) (fr : Nat → AV) : Prop := ∀ t, Rel G (tmps.getD t undef) (fr t)
theorem FrameRel.mono {G G' : Ghost} (hG : G.Le G') {tmps : Array Value} {fr : Nat → AV} (h : FrameRel G tmps fr) : FrameRel G' tmps fr := fun t => (h t).mono hG
/-- A slot is written. -/
def upd (fr : Nat → AV) (t : Nat) (v : AV) : Nat → AV := fun x => if x = t then v else fr x
theorem upd_same (fr : Nat → AV) (t : Nat) (v : AV) : upd fr t v t = v := by simp [upd]
theorem upd_other (fr : Nat → AV) (t x : Nat) (v : AV) (h : x ≠ t) : upd fr t v x = fr x := by simp [upd, h]
theorem FrameRel.put {G : Ghost} {tmps : Array Value} {fr : Nat → AV} (h : FrameRel G tmps fr) {d : Nat} (hd : d < tmps.size) {v : Value} {a : AV} (hv : Rel G v a) : FrameRel G (tmps.setIfInBounds d v) (upd fr d a) := by
  intro t
  unfold upd
  by_cases ht : t = d
  · subst ht
    simp only [if_true]
    rw [Array.getD_eq_getD_getElem?, Array.getElem?_setIfInBounds_self_of_lt hd]
    exact hv
  · simp only [ht, if_false]
    rw [Array.getD_eq_getD_getElem?, Array.getElem?_setIfInBounds_ne (Ne.symm ht), ← Array.getD_eq_getD_getElem?]
    exact h t
end Go.Va
