/- Nothing that has ended is got; behind a sweep there is nothing that has ended, and all else is as it was. (part 1 of 8) -/
import Derived.Below
import Derived.Calls
import Derived.ChangeKeysEq
import Derived.Deep.AppendSrc
import Derived.Deep.Upon
import Derived.Great.BuildSlice
import Derived.Laws.BytesString
import Derived.Laws.Entries
import Derived.Laws.MakeOwn
import Derived.Laws.Rows
import Derived.Laws.Slices
import Derived.Laws.StructEq
import Derived.Laws.Tables
import Derived.Laws.World
import Derived.Lib.Bytes
import Derived.Lib.ConvBytes
import Derived.Lib.Strings
import Derived.Orders
namespace Go.Va
open Go Go.RowKit
set_option linter.unusedVariables false
set_option linter.unusedSimpArgs false

inductive Tok where
  | no
  | full
  | own (t : Nat)
  deriving DecidableEq, Inhabited

inductive AV where
  | junk
  | int (k : IntKind) (n : Int)
  | bool (b : Bool)
  | str (s : ByteArray)
  | nilp
  | nils
  | nilm
  | nilf
  | nili
  | agg (cs : List AV)
  | tup (vs : List AV)
  | sl (t : Tok) (sz : Nat) (es : List AV)
  | fptr (x : List AV) (off : Nat)
  | ref (id off : Nat)
  | msl (id off len : Nat)
  | vec (id sz len : Nat)
  | vc (id sz off len cap : Nat)
  | spc (id : Nat)
  | mapr (id : Nat)
  | itc (s : ByteArray) (pos : Nat)
  | mpc (ks vs : List AV)
  | yld (id : Nat)
  | lpc (st : LoopState) (tmps : List AV) (ps : Array Tmp) (assign body : Code)
  | dfc (op : Bool)
  | iface (t : TypeId) (v : AV)
  | fn (f : Fn) (first captured : List AV)
  deriving Inhabited

def AV.isSp : AV → Bool
  | .itc _ _ => true
  | .mpc _ _ => true
  | .lpc _ _ _ _ _ => true
  | .dfc _ => true
  | _ => false
def spcl : List AV → Bool
  | [a] => a.isSp
  | _ => false

def AV.cells : AV → List AV
  | .agg cs => cs
  | v => [v]

structure Ghost where
  fz : Nat → Nat → Option Value
  loc : Nat → Option Nat
  tok : Nat → Option (Nat × Nat × Nat)
  nt : Nat
  lit : Nat → Bool
  bsz : Nat → Nat

structure Ghost.Le (G G' : Ghost) : Prop where
  fz : ∀ b o v, G.fz b o = some v → G'.fz b o = some v
  loc : ∀ i b, G.loc i = some b → G'.loc i = some b
  tok : ∀ t x, G.tok t = some x → G'.tok t = some x
  nt : G.nt ≤ G'.nt
  lit : ∀ b, G.lit b = true → G'.lit b = true
  bsz : ∀ i b, G.loc i = some b → G'.bsz i = G.bsz i

theorem Ghost.Le.refl (G : Ghost) : G.Le G := ⟨fun _ _ _ h => h, fun _ _ h => h, fun _ _ h => h, Nat.le_refl _, fun _ h => h, fun _ _ _ => rfl⟩
theorem Ghost.Le.trans {a b c : Ghost} (h : a.Le b) (k : b.Le c) : a.Le c :=
  ⟨fun x o v e => k.fz x o v (h.fz x o v e), fun i x e => k.loc i x (h.loc i x e), fun t x e => k.tok t x (h.tok t x e), Nat.le_trans h.nt k.nt, fun b e => k.lit b (h.lit b e), fun i b e => (k.bsz i b (h.loc i b e)).trans (h.bsz i b e)⟩

def TokOk (G : Ghost) : Tok → (b o n c sz : Nat) → Prop
  | .no, _, _, _, _, _ => True
  | .full, b, _, n, c, _ => n = c ∧ G.lit b = true
  | .own t, b, o, n, c, sz => t < G.nt ∧ (n = c ∨ G.tok t = some (b, o + n * sz, o + c * sz))
def TokIn (G : Ghost) : Tok → Prop
  | .own t => t < G.nt
  | _ => True
theorem TokIn.mono {G G' : Ghost} (h : G.Le G') {t : Tok} (k : TokIn G t) : TokIn G' t := by
  cases t with
  | own t => exact Nat.lt_of_lt_of_le k h.nt
  | _ => trivial
theorem TokOk.in_ {G : Ghost} {t : Tok} {b o n c sz : Nat} (k : TokOk G t b o n c sz) : TokIn G t := by
  cases t with
  | own t => exact k.1
  | _ => trivial

theorem TokOk.mono {G G' : Ghost} (h : G.Le G') {t : Tok} {b o n c sz : Nat} (k : TokOk G t b o n c sz) : TokOk G' t b o n c sz := by
  cases t with
  | no => trivial
  | full => exact ⟨k.1, h.lit _ k.2⟩
  | own t => exact ⟨Nat.lt_of_lt_of_le k.1 h.nt, k.2.imp id (h.tok _ _)⟩

inductive Rel (G : Ghost) : Value → AV → Prop where
  | junk (v : Value) : Rel G v .junk
  | int (k : IntKind) (n : Int) : Rel G (.int k n) (.int k n)
  | bool (b : Bool) : Rel G (.bool b) (.bool b)
  | str (s : ByteArray) : Rel G (.string s) (.str s)
  | nilp : Rel G (.pointer none) .nilp
  | nils : Rel G (.slice none 0 0) .nils
  | nilm : Rel G (.map none) .nilm
  | nilf : Rel G .nilFunc .nilf
  | nili : Rel G .nilIface .nili
  | agg (vs : Array Value) (aas : List AV) (hl : vs.size = aas.length) (h : ∀ (i : Nat) (v : Value) (a : AV), vs[i]? = some v → aas[i]? = some a → Rel G v a) : Rel G (.agg vs) (.agg aas)
  | tup (vs : Array Value) (aas : List AV) (hl : vs.size = aas.length) (h : ∀ (i : Nat) (v : Value) (a : AV), vs[i]? = some v → aas[i]? = some a → Rel G v a) : Rel G (.tuple vs) (.tup aas)
  | sl (b o c : Nat) (t : Tok) (sz : Nat) (es : List AV) (val : Nat → Nat → Value) (hc : es.length ≤ c) (hm : c ≤ maxLen) (hz : ∀ e ∈ es, e.cells.length = sz)
      (hf : ∀ (i : Nat) (e : AV) (j : Nat) (a : AV), es[i]? = some e → e.cells[j]? = some a → G.fz b (o + i * sz + j) = some (val i j))
      (h : ∀ (i : Nat) (e : AV) (j : Nat) (a : AV), es[i]? = some e → e.cells[j]? = some a → Rel G (val i j) a) (ht : TokOk G t b o es.length c sz) : Rel G (.slice (some ⟨b, o, none⟩) es.length c) (.sl t sz es)
  | sl0 (A : Option Addr) (c : Nat) (t : Tok) (sz : Nat) (hm : c ≤ maxLen) (ht : t = .no ∨ (c = 0 ∧ TokIn G t)) : Rel G (.slice A 0 c) (.sl t sz [])
  | fptr (b o off : Nat) (x : List AV) (val : Nat → Value) (hf : ∀ (j : Nat) (a : AV), x[j]? = some a → G.fz b (o + j) = some (val j)) (h : ∀ (j : Nat) (a : AV), x[j]? = some a → Rel G (val j) a) :
      Rel G (.pointer (some ⟨b, o + off, none⟩)) (.fptr x off)
  | ref (id off b : Nat) (h : G.loc id = some b) : Rel G (.pointer (some ⟨b, off, none⟩)) (.ref id off)
  | msl (id off len c b : Nat) (hc : len ≤ c) (h : G.loc id = some b) : Rel G (.slice (some ⟨b, off, none⟩) len c) (.msl id off len)
  | vec (id sz len c b : Nat) (h0 : 0 < len) (hc : len ≤ c) (hm : c ≤ maxLen) (h : G.loc id = some b) (hs : c * sz ≤ G.bsz id) : Rel G (.slice (some ⟨b, 0, none⟩) len c) (.vec id sz len)
  | vec0 (A : Option Addr) (id sz : Nat) : Rel G (.slice A 0 0) (.vec id sz 0)
  | vc (id sz off len c b : Nat) (hc : len ≤ c) (hm : c ≤ maxLen) (h : G.loc id = some b) (hs : off + c * sz ≤ G.bsz id) : Rel G (.slice (some ⟨b, off, none⟩) len c) (.vc id sz off len c)
  | spc (id b : Nat) (h : G.loc id = some b) : Rel G (.pointer (some ⟨b, 0, none⟩)) (.spc id)
  | mapr (id b : Nat) (h : G.loc id = some b) : Rel G (.map (some b)) (.mapr id)
  | yld (id b : Nat) (h : G.loc id = some b) : Rel G (.func (.yield b) #[] #[]) (.yld id)
  | iface (t : TypeId) (v : Value) (a : AV) (h : Rel G v a) : Rel G (.iface t v) (.iface t a)
  | fn (f : Fn) (fs cs : Array Value) (fa ca : List AV) (hl : fs.size = fa.length) (hk : cs.size = ca.length) (h : ∀ (i : Nat) (v : Value) (a : AV), fs[i]? = some v → fa[i]? = some a → Rel G v a) (h' : ∀ (i : Nat) (v : Value) (a : AV), cs[i]? = some v → ca[i]? = some a → Rel G v a) :
      Rel G (.func f fs cs) (.fn f fa ca)

theorem Rel.mono {G G' : Ghost} (hG : G.Le G') {v : Value} {a : AV} (h : Rel G v a) : Rel G' v a := by
  induction h with
  | junk v => exact .junk v
  | int k n => exact .int k n
  | bool b => exact .bool b
  | str s => exact .str s
  | nilp => exact .nilp
  | nils => exact .nils
  | nilm => exact .nilm
  | nilf => exact .nilf
  | nili => exact .nili
  | agg vs aas hl _ ih => exact .agg vs aas hl ih
  | tup vs aas hl _ ih => exact .tup vs aas hl ih
  | sl b o c t sz es val hc hm hz hf _ ht ih => exact .sl b o c t sz es val hc hm hz (fun i e j a h1 h2 => hG.fz _ _ _ (hf i e j a h1 h2)) ih (ht.mono hG)
  | sl0 A c t sz hm ht => exact .sl0 A c t sz hm (ht.imp id fun h => ⟨h.1, h.2.mono hG⟩)
  | fptr b o off x val hf _ ih => exact .fptr b o off x val (fun j a h1 => hG.fz _ _ _ (hf j a h1)) ih
  | ref id off b h => exact .ref id off b (hG.loc _ _ h)
  | msl id off len c b hc h => exact .msl id off len c b hc (hG.loc _ _ h)
  | vec id sz len c b h0 hc hm h hs => exact .vec id sz len c b h0 hc hm (hG.loc _ _ h) (by rw [hG.bsz _ _ h]; exact hs)
  | vec0 A id sz => exact .vec0 A id sz
  | vc id sz off len c b hc hm h hs => exact .vc id sz off len c b hc hm (hG.loc _ _ h) (by rw [hG.bsz _ _ h]; exact hs)
  | spc id b h => exact .spc id b (hG.loc _ _ h)
  | mapr id b h => exact .mapr id b (hG.loc _ _ h)
  | yld id b h => exact .yld id b (hG.loc _ _ h)
  | iface t v a _ ih => exact .iface t v a ih
  | fn f fs cs fa ca hl hk _ _ ih1 ih2 => exact .fn f fs cs fa ca hl hk ih1 ih2

structure RelL (G : Ghost) (vs : List Value) (aas : List AV) : Prop where
  len : vs.length = aas.length
  at_ : ∀ (i : Nat) (v : Value) (a : AV), vs[i]? = some v → aas[i]? = some a → Rel G v a

theorem RelL.mono {G G' : Ghost} (hG : G.Le G') {vs : List Value} {aas : List AV} (h : RelL G vs aas) : RelL G' vs aas := ⟨h.len, fun i v a h1 h2 => (h.at_ i v a h1 h2).mono hG⟩
theorem RelL.nil (G : Ghost) : RelL G [] [] := ⟨rfl, fun i v a h => by simp at h⟩
theorem RelL.cons {G : Ghost} {v : Value} {a : AV} {vs : List Value} {aas : List AV} (h : Rel G v a) (hs : RelL G vs aas) : RelL G (v :: vs) (a :: aas) :=
  ⟨by simp [hs.len], fun i v' a' h1 h2 => by
    cases i with
    | zero => simp at h1 h2; subst h1; subst h2; exact h
    | succ i => exact hs.at_ i v' a' (by simpa using h1) (by simpa using h2)⟩
theorem RelL.append {G : Ghost} {vs ws : List Value} {aas bs : List AV} (h : RelL G vs aas) (k : RelL G ws bs) : RelL G (vs ++ ws) (aas ++ bs) :=
  ⟨by simp [h.len, k.len], fun i v a h1 h2 => by
    by_cases hi : i < vs.length
    · rw [List.getElem?_append_left hi] at h1
      rw [List.getElem?_append_left (by rw [← h.len]; exact hi)] at h2
      exact h.at_ i v a h1 h2
    · rw [List.getElem?_append_right (by omega)] at h1
      rw [List.getElem?_append_right (by rw [← h.len]; omega), ← h.len] at h2
      exact k.at_ _ v a h1 h2⟩
theorem RelL.get {G : Ghost} {vs : List Value} {aas : List AV} (h : RelL G vs aas) {i : Nat} {a : AV} (ha : aas[i]? = some a) : ∃ v, vs[i]? = some v ∧ Rel G v a := by
  have hi : i < aas.length := (List.getElem?_eq_some_iff.1 ha).1
  have hi' : i < vs.length := by rw [h.len]; exact hi
  exact ⟨vs[i], List.getElem?_eq_getElem hi', h.at_ i _ a (List.getElem?_eq_getElem hi') ha⟩
theorem RelL.take {G : Ghost} {vs : List Value} {aas : List AV} (h : RelL G vs aas) (n : Nat) : RelL G (vs.take n) (aas.take n) :=
  ⟨by simp [h.len], fun i v a h1 h2 => by
    rw [List.getElem?_take] at h1 h2
    split at h1 <;> simp_all
    exact h.at_ i v a h1 h2⟩
theorem RelL.drop {G : Ghost} {vs : List Value} {aas : List AV} (h : RelL G vs aas) (n : Nat) : RelL G (vs.drop n) (aas.drop n) :=
  ⟨by simp [h.len], fun i v a h1 h2 => h.at_ (n + i) v a (by simpa using h1) (by simpa using h2)⟩
theorem rel_cells {G : Ghost} {v : Value} {a : AV} (h : Rel G v a) (ha : a ≠ .junk) : RelL G v.cells.toList a.cells := by
  cases h with
  | agg vs aas hl h => exact ⟨by simpa [Value.cells, AV.cells] using hl, fun i v a h1 h2 => h i v a (by simpa [Value.cells] using h1) (by simpa [AV.cells] using h2)⟩
  | junk => exact absurd rfl ha
  | int k n => exact (RelL.nil G).cons (.int k n)
  | bool b => exact (RelL.nil G).cons (.bool b)
  | str s => exact (RelL.nil G).cons (.str s)
  | nilp => exact (RelL.nil G).cons .nilp
  | nils => exact (RelL.nil G).cons .nils
  | nilm => exact (RelL.nil G).cons .nilm
  | nilf => exact (RelL.nil G).cons .nilf
  | nili => exact (RelL.nil G).cons .nili
  | tup vs aas hl h => exact (RelL.nil G).cons (.tup vs aas hl h)
  | sl b o c t sz es val hc hm hz hf h ht => exact (RelL.nil G).cons (.sl b o c t sz es val hc hm hz hf h ht)
  | sl0 A c t sz hm ht => exact (RelL.nil G).cons (.sl0 A c t sz hm ht)
  | fptr b o off x val hf h => exact (RelL.nil G).cons (.fptr b o off x val hf h)
  | ref id off b h => exact (RelL.nil G).cons (.ref id off b h)
  | msl id off len c b hc h => exact (RelL.nil G).cons (.msl id off len c b hc h)
  | vec id sz len c b h0 hc hm h hs => exact (RelL.nil G).cons (.vec id sz len c b h0 hc hm h hs)
  | vec0 A id sz => exact (RelL.nil G).cons (.vec0 A id sz)
  | vc id sz off len c b hc hm h hs => exact (RelL.nil G).cons (.vc id sz off len c b hc hm h hs)
  | spc id b h => exact (RelL.nil G).cons (.spc id b h)
  | mapr id b h => exact (RelL.nil G).cons (.mapr id b h)
  | yld id b h => exact (RelL.nil G).cons (.yld id b h)
  | iface t v a h => exact (RelL.nil G).cons (.iface t v a h)
  | fn f fs cs fa ca hl hk h h' => exact (RelL.nil G).cons (.fn f fs cs fa ca hl hk h h')

structure RelP (G : Ghost) (vs : Array Value) (cells : List AV) : Prop where
  le : cells.length ≤ vs.size
  rel : RelL G (vs.toList.take cells.length) cells
theorem RelP.mono {G G' : Ghost} (hG : G.Le G') {vs : Array Value} {cells : List AV} (h : RelP G vs cells) : RelP G' vs cells := ⟨h.le, h.rel.mono hG⟩
theorem RelP.of {G : Ghost} {vs : Array Value} {cells : List AV} (h : RelL G vs.toList cells) : RelP G vs cells := by
  have hl : cells.length = vs.size := by simpa using h.len.symm
  refine ⟨by omega, ?_⟩
  rw [hl, List.take_of_length_le (by simp)]
  exact h
inductive SpO (G : Ghost) : Obj → AV → Prop where
  | it (s : ByteArray) (p : Nat) : SpO G (.stringIter s p) (.itc s p)
  | mp (es : Array MapEntry) (clock : Nat) (ks vs : List AV) (hk : RelL G (es.toList.map (·.key)) ks) (hv : RelL G (es.toList.map (·.val)) vs) (hb : ∀ e ∈ es.toList, e.born < clock) : SpO G (.map es clock) (.mpc ks vs)
  | lp (r : Loop) (avs : List AV) (h : RelL G r.tmps.toList avs) (hp : r.pending = none) : SpO G (.loop r) (.lpc r.state avs r.params r.assign r.body)
  | df (b : Bool) : SpO G (.deferred (if b = true then some [] else none)) (.dfc b)
theorem SpO.mono {G G' : Ghost} (hG : G.Le G') {o : Obj} {a : AV} (h : SpO G o a) : SpO G' o a := by
  cases h with
  | it s p => exact .it s p
  | mp es clock ks vs hk hv hb => exact .mp es clock ks vs (hk.mono hG) (hv.mono hG) hb
  | lp r avs h hp => exact .lp r avs (h.mono hG) hp
  | df b => exact .df b
theorem SpO.nc {G : Ghost} {o : Obj} {a : AV} (h : SpO G o a) : ∀ cs T f, o ≠ .cells cs T f := by
  intro cs T f; cases h <;> simp
theorem rel_nsp {G : Ghost} {v : Value} {a : AV} (h : Rel G v a) : a.isSp = false := by cases h <;> rfl
theorem rell_nsp {G : Ghost} {vs : List Value} {cells : List AV} (h : RelL G vs cells) : spcl cells = false := by
  match cells, h with
  | [], _ => rfl
  | [a], h =>
    obtain ⟨v, _, hv⟩ := h.get (i := 0) (a := a) rfl
    exact rel_nsp hv
  | _ :: _ :: _, _ => rfl
theorem RelP.nsp {G : Ghost} {vs : Array Value} {cells : List AV} (h : RelP G vs cells) : spcl cells = false := rell_nsp h.rel
structure St where
  objs : List (List AV)
  opn : List Bool
  gl : List (Addr × Value)

def St.row (σ : St) (id : Nat) : Option (List AV) := match σ.objs[id]? with | some c => if spcl c = true then none else some c | none => none
theorem row_some {σ : St} {id : Nat} {c : List AV} (h : σ.row id = some c) : σ.objs[id]? = some c ∧ spcl c = false := by
  unfold St.row at h
  split at h
  · rename_i d hd
    split at h
    · cases h
    · rename_i hs; cases h; exact ⟨hd, by simpa using hs⟩
  · cases h
theorem row_eq {σ : St} {id : Nat} {c : List AV} (h : σ.objs[id]? = some c) (hs : spcl c = false) : σ.row id = some c := by
  unfold St.row
  rw [h]
  simp [hs]

structure Inv (w0 : World) (G : Ghost) (w : World) (σ : St) : Prop where
  below : Below w0.heap.size w0 w
  fz : ∀ b o v, G.fz b o = some v → w.cell? ⟨b, o, none⟩ = some v ∧ v.oneCell' = true
  loc : ∀ (id : Nat) (cells : List AV), σ.objs[id]? = some cells → cells ≠ [] → spcl cells = false → ∃ b T vs, G.loc id = some b ∧ w0.heap.size ≤ b ∧ w.heap[b]? = some (.cells vs T (0, 0)) ∧ RelP G vs cells ∧ (∀ v ∈ vs.toList, v.oneCell' = true) ∧ vs.size = G.bsz id
  locfz : ∀ id b o c, G.loc id = some b → σ.objs[id]? = some c → c ≠ [] → G.fz b o = none
  loclt : ∀ id b, G.loc id = some b → b < w.heap.size
  locdom : ∀ id b, G.loc id = some b → id < σ.objs.length
  locinj : ∀ i j b c d, G.loc i = some b → G.loc j = some b → σ.objs[i]? = some c → σ.objs[j]? = some d → c ≠ [] → d ≠ [] → i = j
  tok : ∀ t b top en, σ.opn[t]? = some true → G.tok t = some (b, top, en) → w0.heap.size ≤ b ∧ (∃ cs T, w.heap[b]? = some (.cells cs T (0, 0)) ∧ en ≤ cs.size) ∧ (∀ o, top ≤ o → G.fz b o = none) ∧ (∀ id, G.loc id = some b → σ.objs[id]? = some [])
  tokdom : ∀ t x, G.tok t = some x → t < σ.opn.length
  tokinj : ∀ t t' x x', σ.opn[t]? = some true → σ.opn[t']? = some true → G.tok t = some x → G.tok t' = some x' → x.1 = x'.1 → t = t'
  nt : G.nt ≤ σ.opn.length
  lit : ∀ b, G.lit b = true → w0.heap.size ≤ b ∧ b < w.heap.size ∧ (∀ id, G.loc id ≠ some b) ∧ (∀ t x, σ.opn[t]? = some true → G.tok t = some x → x.1 ≠ b)
  gl : ∀ p ∈ σ.gl, w0.cell? p.1 = some p.2
  sp : ∀ (id : Nat) (a : AV), σ.objs[id]? = some [a] → a.isSp = true → ∃ b o, G.loc id = some b ∧ w0.heap.size ≤ b ∧ w.heap[b]? = some o ∧ SpO G o a

theorem Inv.fzlt {w0 : World} {G : Ghost} {w : World} {σ : St} (h : Inv w0 G w σ) {b o : Nat} {v : Value} (hf : G.fz b o = some v) : b < w.heap.size :=
  World.block_lt_of_cell? w ⟨b, o, none⟩ (h.fz b o v hf).1

theorem Inv.sp_to {w0 : World} {G G' : Ghost} {w w' : World} {σ σ' : St} (h : Inv w0 G w σ) (hG : G.Le G') (hk : ∀ (k : Nat) o, (∀ cs T f, o ≠ Obj.cells cs T f) → w.heap[k]? = some o → w'.heap[k]? = some o) (ho : ∀ (id : Nat) a, σ'.objs[id]? = some [a] → a.isSp = true → σ.objs[id]? = some [a]) :
    ∀ (id : Nat) (a : AV), σ'.objs[id]? = some [a] → a.isSp = true → ∃ b o, G'.loc id = some b ∧ w0.heap.size ≤ b ∧ w'.heap[b]? = some o ∧ SpO G' o a := fun id a h1 h2 => by
  obtain ⟨b, o, e1, e2, e3, e4⟩ := h.sp id a (ho id a h1 h2) h2
  exact ⟨b, o, hG.loc _ _ e1, e2, hk b o e4.nc e3, e4.mono hG⟩
theorem Inv.sp_other {w0 : World} {G G' : Ghost} {w w' : World} {σ : St} (h : Inv w0 G w σ) (hG : G.Le G') {b : Nat} {cs : Array Value} {T : TypeId} {f : Nat × Nat} (e : w.heap[b]? = some (.cells cs T f)) (hk : ∀ k, k ≠ b → w'.heap[k]? = w.heap[k]?) :
    ∀ (id : Nat) (a : AV), σ.objs[id]? = some [a] → a.isSp = true → ∃ b o, G'.loc id = some b ∧ w0.heap.size ≤ b ∧ w'.heap[b]? = some o ∧ SpO G' o a :=
  h.sp_to hG (fun k o hn hko => by
    have hx : k ≠ b := fun he => by subst he; rw [e] at hko; injection hko with hko; exact hn _ _ _ hko.symm
    exact (hk k hx).trans hko) (fun _ _ h _ => h)

theorem Inv.drew {w0 : World} {G : Ghost} {w : World} {σ : St} (h : Inv w0 G w σ) : Inv w0 G w.drew σ :=
  ⟨h.below.drew, h.fz, h.loc, h.locfz, h.loclt, h.locdom, h.locinj, h.tok, h.tokdom, h.tokinj, h.nt, h.lit, h.gl, h.sp⟩

def FrameRel (G : Ghost) (tmps : Array Value) (fr : Nat → AV) : Prop := ∀ t, Rel G (tmps.getD t undef) (fr t)
theorem FrameRel.mono {G G' : Ghost} (hG : G.Le G') {tmps : Array Value} {fr : Nat → AV} (h : FrameRel G tmps fr) : FrameRel G' tmps fr := fun t => (h t).mono hG
def upd (fr : Nat → AV) (t : Nat) (v : AV) : Nat → AV := fun x => if x = t then v else fr x
theorem FrameRel.put {G : Ghost} {tmps : Array Value} {fr : Nat → AV} (h : FrameRel G tmps fr) {d : Nat} (hd : d < tmps.size) {v : Value} {a : AV} (hv : Rel G v a) : FrameRel G (tmps.setIfInBounds d v) (upd fr d a) := by
  intro t
  unfold upd
  by_cases ht : t = d
  · subst ht
    simp only [if_true]
    rw [Array.getD_eq_getD_getElem?, Array.getElem?_setIfInBounds_self_of_lt hd]
    exact hv
  · simp only [ht, if_false]
    rw [Array.getD_eq_getD_getElem?, Array.getElem?_setIfInBounds_ne (Ne.symm ht), ← Array.getD_eq_getD_getElem?]
    exact h t

inductive TD where
  | int (k : IntKind) | bool | str | slice (e : TypeId) | arr (n : Nat) (e : TypeId) | struct (fs : List (Nat × TypeId)) | ptr (e : TypeId) | iface | func | map (k e : TypeId) | other
  deriving Inhabited
structure TI where
  d : TD
  sz : Nat
  bytes : Nat
  zero : AV
  deriving Inhabited

def TdOk (P : Program) (t : TypeId) : TD → Prop
  | .int k => P.underlying t = some (.int k)
  | .bool => P.underlying t = some .bool
  | .str => P.underlying t = some .string
  | .slice e => P.underlying t = some (.slice e)
  | .arr n e => P.underlying t = some (.array n e)
  | .struct fs => ∃ fields : Array Field, P.underlying t = some (.struct fields) ∧ fields.toList.map (fun f => (f.offset, f.type)) = fs
  | .ptr e => P.underlying t = some (.pointer e)
  | .iface => ∃ ms, P.underlying t = some (.interface ms)
  | .func => ∃ ps rs v, P.underlying t = some (.func ps rs v)
  | .map k e => P.underlying t = some (.map k e)
  | .other => False
structure TiOk (P : Program) (t : TypeId) (i : TI) : Prop where
  d : TdOk P t i.d
  info : ∃ ti z, P.info? t = some ti ∧ ti.size = i.sz ∧ ti.bytes = i.bytes ∧ ti.zero = some z ∧ (∀ G, RelL G z.cells.toList i.zero.cells) ∧ z.cells.size = i.sz ∧ i.zero.cells.length = i.sz ∧ z.cells.all (·.oneCell') = true
def TyOk (P : Program) (Ty : TypeId → Option TI) : Prop := ∀ t i, Ty t = some i → TiOk P t i

def ofConst : Value → AV
  | .int k n => .int k n
  | .bool b => .bool b
  | .string s => .str s
  | .pointer none => .nilp
  | .slice none 0 0 => .nils
  | .map none => .nilm
  | .nilFunc => .nilf
  | .nilIface => .nili
  | _ => .junk
theorem rel_ofConst (G : Ghost) (v : Value) : Rel G v (ofConst v) := by
  unfold ofConst
  split <;> constructor
def aeval (fr : Nat → AV) : Operand → AV
  | .tmp t => fr t
  | .const v => ofConst v
  | .func f => .fn (.func f) [] []
  | .global _ => .junk
theorem rel_aeval {G : Ghost} {a : Act} {fr : Nat → AV} (h : FrameRel G a.tmps fr) (x : Operand) : Rel G (a.eval x) (aeval fr x) := by
  cases x with
  | tmp t => exact h t
  | const v => exact rel_ofConst G v
  | func f => exact .fn _ #[] #[] [] [] rfl rfl (fun i v a h => by simp at h) (fun i v a h => by simp at h)
  | global g => exact .junk _

def aarith (op : BinOp) (k : IntKind) (x y : Int) : Option AV :=
  match op with
  | .add => some (.int k (k.wrap (x + y)))
  | .sub => some (.int k (k.wrap (x - y)))
  | .mul => some (.int k (k.wrap (x * y)))
  | .quo => if y = 0 then none else some (.int k (k.wrap (x.tdiv y)))
  | .rem => if y = 0 then none else some (.int k (x.tmod y))
  | .and => some (.int k (bits .and k x y))
  | .or => some (.int k (bits .or k x y))
  | .xor => some (.int k (bits .xor k x y))
  | .andNot => some (.int k (bits .andNot k x y))
  | .eql => some (.bool (x == y))
  | .neq => some (.bool (x != y))
  | .lss => some (.bool (x < y))
  | .leq => some (.bool (x ≤ y))
  | .gtr => some (.bool (x > y))
  | .geq => some (.bool (x ≥ y))
  | _ => none
def ashift (op : BinOp) (k : IntKind) (x y : Int) : Option AV :=
  if y < 0 then none else match op with
  | .shl => some (.int k (k.wrap (x * 2 ^ min y.toNat k.bits)))
  | .shr => some (.int k (x.fdiv (2 ^ min y.toNat k.bits)))
  | _ => none
def astr (op : BinOp) (x y : ByteArray) : Option AV :=
  match op with
  | .add => if x.size + y.size ≤ 9223372036854775807 then some (.str (x ++ y)) else none
  | .eql => some (.bool (decide (x = y)))
  | .neq => some (.bool (!decide (x = y)))
  | .lss => some (.bool (Op.bytesLess x.toList y.toList))
  | _ => none
def isC : Operand → Bool
  | .const _ => true
  | _ => false
def tdOf (Ty : TypeId → Option TI) (t : TypeId) : TD := match Ty t with | some i => i.d | none => .other
theorem tdOf_ok {P : Program} {Ty : TypeId → Option TI} (hT : TyOk P Ty) {t : TypeId} {d : TD} (h : tdOf Ty t = d) (hd : d ≠ .other) : TdOk P t d := by
  unfold tdOf at h
  split at h
  · rename_i i hi
    subst h
    exact (hT t i hi).d
  · exact absurd h.symm hd
def aeq (op : BinOp) (b : Bool) : Option AV :=
  match op with
  | .eql => some (.bool b)
  | .neq => some (.bool (!b))
  | _ => none
def abin (Ty : TypeId → Option TI) (op : BinOp) (t : TypeId) (ox oy : Operand) (x y : AV) : Option AV :=
  match x, y with
  | .int k a, .int k' b => match op with
    | .shl => ashift .shl k a b
    | .shr => ashift .shr k a b
    | _ => if k = k' then aarith op k a b else none
  | .str a, .str b => astr op a b
  | .bool a, .bool b => match tdOf Ty t with | .bool => aeq op (a == b) | _ => none
  | .nili, .nili => match tdOf Ty t with | .iface => if isC ox || isC oy then aeq op true else none | _ => none
  | .iface _ _, .nili => match tdOf Ty t with | .iface => aeq op false | _ => none
  | .nili, .iface _ _ => match tdOf Ty t with | .iface => aeq op false | _ => none
  | .nilp, .nilp => match tdOf Ty t with | .ptr _ => aeq op true | _ => none
  | .ref _ _, .nilp => match tdOf Ty t with | .ptr _ => aeq op false | _ => none
  | .fptr _ _, .nilp => match tdOf Ty t with | .ptr _ => aeq op false | _ => none
  | _, _ => none

theorem beq_str (a b : ByteArray) : (a.toList == b.toList) = decide (a = b) := by
  rw [Bool.eq_iff_iff]
  simp only [beq_iff_eq, decide_eq_true_iff]
  constructor
  · intro h
    rw [Lib.toList_data, Lib.toList_data] at h
    cases a; cases b
    simp at h
    rw [h]
  · rintro rfl; rfl

section
variable {P : Program} {Ty : TypeId → Option TI} {G : Ghost} {w : World}
theorem aarith_sound {op : BinOp} {k : IntKind} {x y : Int} {a : AV} (h : aarith op k x y = some a) (hs : op ≠ .shl) (hr : op ≠ .shr) (t : TypeId) :
    ∃ v, (binOp op t (.int k x) (.int k y)).run P w = .ok v w ∧ Rel G v a := by
  cases op <;> simp only [aarith] at h
  case shl => exact absurd rfl hs
  case shr => exact absurd rfl hr
  case quo => split at h <;> simp_all; subst h; exact ⟨_, by simp [binOp, Op.intDiv, *], .int _ _⟩
  case rem => split at h <;> simp_all; subst h; exact ⟨_, by simp [binOp, Op.intDiv, *], .int _ _⟩
  all_goals simp only [Option.some.injEq] at h; subst h; exact ⟨_, (by simp only [binOp, ne_eq, not_true_eq_false, if_false]; rfl), by constructor⟩
theorem ashift_sound {op : BinOp} {k : IntKind} {x y : Int} {a : AV} (h : ashift op k x y = some a) (k' : IntKind) (t : TypeId) :
    ∃ v, (binOp op t (.int k x) (.int k' y)).run P w = .ok v w ∧ Rel G v a := by
  unfold ashift at h
  split at h
  · cases h
  · cases op <;> simp at h <;> subst h
    · exact ⟨_, by simp [binOp, Op.shift, *], .int _ _⟩
    · exact ⟨_, by simp [binOp, Op.shift, *], .int _ _⟩
theorem astr_sound {op : BinOp} {x y : ByteArray} {a : AV} (h : astr op x y = some a) (t : TypeId) :
    ∃ v, (binOp op t (.string x) (.string y)).run P w = .ok v w ∧ Rel G v a := by
  cases op <;> simp only [astr] at h
  case add =>
    split at h
    · rename_i hle
      simp at h; subst h
      refine ⟨_, ?_, .str _⟩
      have : ¬ ((x.size + y.size : Nat) : Int) > IntKind.i64.max := by
        have e : IntKind.i64.max = 9223372036854775807 := by decide
        rw [e]; omega
      simp only [binOp, Op.stringOp, if_neg this]
      rfl
    · cases h
  case eql => simp only [Option.some.injEq] at h; subst h; exact ⟨_, (by simp only [binOp, Op.stringOp, beq_str]; rfl), .bool _⟩
  case neq => simp only [Option.some.injEq] at h; subst h; exact ⟨_, (by simp only [binOp, Op.stringOp, beq_str]; rfl), .bool _⟩
  case lss => simp only [Option.some.injEq] at h; subst h; exact ⟨_, (by simp only [binOp, Op.stringOp]; rfl), .bool _⟩
  all_goals cases h
theorem eqGuard_bare (op : BinOp) (t : TypeId) (ox oy : Operand) (a b : Value) (hn : ¬ (a = .nilIface ∧ b = .nilIface)) (ha : ∀ x y, ¬ (a = .agg x ∧ b = .agg y)) : (eqGuard op t ox oy a b).run P w = .ok () w := by
  cases op
  case eql | neq =>
    unfold eqGuard
    simp only [Bool.not_true, Bool.false_eq_true, if_false]
    split
    · exact absurd ⟨rfl, rfl⟩ hn
    · rename_i x y; exact absurd ⟨rfl, rfl⟩ (ha x y)
    · rfl
  all_goals rfl
theorem eqIn_bool {d : Nat} {t : TypeId} (hu : P.underlying t = some .bool) (a b : Bool) : (Op.equalIn (d + 1) t (.bool a) (.bool b)).run P w = .ok (a == b) w := by
  simp [Op.equalIn, run_underlying hu]
theorem eqIn_nili {d : Nat} {t : TypeId} {ms : Array (String × TypeId)} (hu : P.underlying t = some (.interface ms)) : (Op.equalIn (d + 1) t .nilIface .nilIface).run P w = .ok true w := by
  simp [Op.equalIn, run_underlying hu]
theorem eqIn_iface_nil {d : Nat} {t : TypeId} {ms : Array (String × TypeId)} (hu : P.underlying t = some (.interface ms)) (u : TypeId) (x : Value) : (Op.equalIn (d + 1) t (.iface u x) .nilIface).run P w = .ok false w := by
  simp [Op.equalIn, run_underlying hu]
theorem eqIn_nil_iface {d : Nat} {t : TypeId} {ms : Array (String × TypeId)} (hu : P.underlying t = some (.interface ms)) (u : TypeId) (x : Value) : (Op.equalIn (d + 1) t .nilIface (.iface u x)).run P w = .ok false w := by
  simp [Op.equalIn, run_underlying hu]
theorem eqIn_ptr_nil {d : Nat} {t e : TypeId} (hu : P.underlying t = some (.pointer e)) (p : Option Addr) : (Op.equalIn (d + 1) t (.pointer p) (.pointer none)).run P w = .ok p.isNone w := by
  cases p <;> simp [Op.equalIn, run_underlying hu]
theorem aeq_sound {op : BinOp} {b : Bool} {a : AV} (h : aeq op b = some a) {t : TypeId} {x y : Value} (he : (Op.equal t x y).run P w = .ok b w) (hx : ∀ k n, x ≠ .int k n) (hf : ∀ k n, x ≠ .float k n) (hc : ∀ k n m, x ≠ .complex k n m) (hs : ∀ s, x ≠ .string s) :
    ∃ v, (binOp op t x y).run P w = .ok v w ∧ Rel G v a := by
  cases op <;> simp only [aeq] at h
  case eql =>
    simp at h; subst h
    refine ⟨.bool b, ?_, .bool _⟩
    unfold binOp
    split <;> simp_all
  case neq =>
    simp at h; subst h
    refine ⟨.bool (!b), ?_, .bool _⟩
    unfold binOp
    split <;> simp_all
  all_goals cases h
theorem eqGuard_nili (op : BinOp) (t : TypeId) (ox oy : Operand) (h : (isC ox || isC oy) = true) : (eqGuard op t ox oy .nilIface .nilIface).run P w = .ok () w := by
  cases op
  case eql | neq => cases ox <;> cases oy <;> first | rfl | (simp [isC] at h)
  all_goals rfl
theorem abin_sound (hT : TyOk P Ty) (op : BinOp) (t : TypeId) (ox oy : Operand) {x y : AV} {vx vy : Value} (hx : Rel G vx x) (hy : Rel G vy y) {a : AV} (h : abin Ty op t ox oy x y = some a) :
    ∃ v, ((do eqGuard op t ox oy vx vy; binOp op t vx vy : Sem Value)).run P w = .ok v w ∧ Rel G v a := by
  have bare : (∃ v, (binOp op t vx vy).run P w = .ok v w ∧ Rel G v a) → (eqGuard op t ox oy vx vy).run P w = .ok () w → ∃ v, ((do eqGuard op t ox oy vx vy; binOp op t vx vy : Sem Value)).run P w = .ok v w ∧ Rel G v a := by
    rintro ⟨v, h1, h2⟩ h3
    exact ⟨v, by simp [Sem.run_bind, h3, h1, Result.andThen], h2⟩
  unfold abin at h
  split at h
  · cases hx; cases hy
    refine bare ?_ (eqGuard_bare _ _ _ _ _ _ (by simp) (by simp))
    split at h
    · exact ashift_sound h _ t
    · exact ashift_sound h _ t
    · rename_i h1 h2
      split at h
      · rename_i hk; subst hk
        exact aarith_sound h h1 h2 t
      · cases h
  · cases hx; cases hy
    exact bare (astr_sound h t) (eqGuard_bare _ _ _ _ _ _ (by simp) (by simp))
  · cases hx; cases hy
    split at h
    · rename_i hd
      exact bare (aeq_sound h (eqIn_bool (d := 9999) (tdOf_ok hT hd (by simp)) _ _) (by simp) (by simp) (by simp) (by simp)) (eqGuard_bare _ _ _ _ _ _ (by simp) (by simp))
    · cases h
  · cases hx; cases hy
    split at h
    · rename_i hd
      obtain ⟨ms, hu⟩ := tdOf_ok hT hd (by simp)
      split at h
      · rename_i hc
        exact bare (aeq_sound h (eqIn_nili (d := 9999) hu) (by simp) (by simp) (by simp) (by simp)) (eqGuard_nili _ _ _ _ hc)
      · cases h
    · cases h
  · cases hx; cases hy
    split at h
    · rename_i hd
      obtain ⟨ms, hu⟩ := tdOf_ok hT hd (by simp)
      exact bare (aeq_sound h (eqIn_iface_nil (d := 9999) hu _ _) (by simp) (by simp) (by simp) (by simp)) (eqGuard_bare _ _ _ _ _ _ (by simp) (by simp))
    · cases h
  · cases hx; cases hy
    split at h
    · rename_i hd
      obtain ⟨ms, hu⟩ := tdOf_ok hT hd (by simp)
      exact bare (aeq_sound h (eqIn_nil_iface (d := 9999) hu _ _) (by simp) (by simp) (by simp) (by simp)) (eqGuard_bare _ _ _ _ _ _ (by simp) (by simp))
    · cases h
  · cases hx; cases hy
    split at h
    · rename_i hd
      exact bare (aeq_sound h (eqIn_ptr_nil (d := 9999) (tdOf_ok hT hd (by simp)) none) (by simp) (by simp) (by simp) (by simp)) (eqGuard_bare _ _ _ _ _ _ (by simp) (by simp))
    · cases h
  · cases hx; cases hy
    split at h
    · rename_i hd
      exact bare (aeq_sound h (eqIn_ptr_nil (d := 9999) (tdOf_ok hT hd (by simp)) (some _)) (by simp) (by simp) (by simp) (by simp)) (eqGuard_bare _ _ _ _ _ _ (by simp) (by simp))
    · cases h
  · cases hx; cases hy
    split at h
    · rename_i hd
      exact bare (aeq_sound h (eqIn_ptr_nil (d := 9999) (tdOf_ok hT hd (by simp)) (some _)) (by simp) (by simp) (by simp) (by simp)) (eqGuard_bare _ _ _ _ _ _ (by simp) (by simp))
    · cases h
  · cases h

def aun (op : UnOp) (x : AV) : Option AV :=
  match op, x with
  | .neg, .int k n => some (.int k (k.wrap (0 - n)))
  | .xor, .int k n => some (.int k (bits .xor k (if k.signed then -1 else k.max) n))
  | .not, .bool b => some (.bool (!b))
  | _, _ => none
theorem aun_sound (op : UnOp) {x : AV} {vx : Value} (hx : Rel G vx x) {a : AV} (h : aun op x = some a) : ∃ v, (Op.unary op vx).run P w = .ok v w ∧ Rel G v a := by
  unfold aun at h
  split at h
  · cases h; cases hx; exact ⟨_, rfl, .int _ _⟩
  · cases h; cases hx; exact ⟨_, rfl, .int _ _⟩
  · cases h; cases hx; exact ⟨_, rfl, .bool _⟩
  · cases h
def aconv (Ty : TypeId → Option TI) (src dst : TypeId) (x : AV) : Option AV :=
  match tdOf Ty src, tdOf Ty dst, x with
  | .int _, .int k, .int _ n => some (.int k (k.wrap n))
  | .str, .str, .str s => some (.str s)
  | .int _, .str, .int _ n => some (.str (Utf8.encode n))
  | _, _, _ => none
theorem aconv_sound (hT : TyOk P Ty) (src dst : TypeId) {x : AV} {vx : Value} (hx : Rel G vx x) {a : AV} (h : aconv Ty src dst x = some a) : ∃ v, (convert src dst vx).run P w = .ok v w ∧ Rel G v a := by
  unfold aconv at h
  split at h
  · rename_i hs hd
    cases h; cases hx
    exact ⟨_, by simp [convert, run_underlying (tdOf_ok hT hs (by simp)), run_underlying (tdOf_ok hT hd (by simp)), Conv.intToInt], .int _ _⟩
  · rename_i hs hd
    cases h; cases hx
    exact ⟨_, by simp [convert, run_underlying (tdOf_ok hT hs (by simp)), run_underlying (tdOf_ok hT hd (by simp))], .str _⟩
  · rename_i hs hd
    cases h; cases hx
    exact ⟨_, by simp [convert, run_underlying (tdOf_ok hT hs (by simp)), run_underlying (tdOf_ok hT hd (by simp)), Conv.intToString], .str _⟩
  · cases h
end

theorem alloc_cell_lt {w : World} (o : Obj) {b c : Nat} (h : b < w.heap.size) : (w.alloc o).cell? ⟨b, c, none⟩ = w.cell? ⟨b, c, none⟩ := World.cell?_alloc_lt w o ⟨b, c, none⟩ h
theorem alloc_heap_lt {w : World} (o : Obj) {b : Nat} (h : b < w.heap.size) : (w.alloc o).heap[b]? = w.heap[b]? := heap_alloc_old w o b h

theorem heap_alloc_keep {w : World} (o' : Obj) {k : Nat} {o : Obj} (h : w.heap[k]? = some o) : (w.alloc o').heap[k]? = some o := (alloc_heap_lt _ (Array.getElem?_eq_some_iff.1 h).1).trans h
theorem Inv.sp_alloc {w0 : World} {G G' : Ghost} {w : World} {σ : St} (h : Inv w0 G w σ) (hG : G.Le G') (o' : Obj) : ∀ (id : Nat) (a : AV), σ.objs[id]? = some [a] → a.isSp = true → ∃ b o, G'.loc id = some b ∧ w0.heap.size ≤ b ∧ (w.alloc o').heap[b]? = some o ∧ SpO G' o a :=
  h.sp_to hG (fun k o _ hko => heap_alloc_keep o' hko) (fun _ _ h _ => h)
theorem objs_snoc {σ : St} {cells : List AV} {g : List (Addr × Value)} {l : List Bool} (hs : spcl cells = false) : ∀ (id : Nat) a, (⟨σ.objs ++ [cells], l, g⟩ : St).objs[id]? = some [a] → a.isSp = true → σ.objs[id]? = some [a] := by
  intro id a h1 h2
  by_cases hid : id < σ.objs.length
  · simp only at h1
    rwa [List.getElem?_append_left hid] at h1
  · simp only at h1
    rw [List.getElem?_append_right (by omega)] at h1
    cases hz : id - σ.objs.length with
    | zero => rw [hz] at h1; simp at h1; subst h1; simp only [spcl] at hs; rw [hs] at h2; cases h2
    | succ m => rw [hz] at h1; simp at h1

def Ghost.addLoc (G : Ghost) (id b n : Nat) : Ghost := { G with loc := fun i => if i = id then some b else G.loc i, bsz := fun i => if i = id then n else G.bsz i }
theorem Inv.alloc_loc {w0 : World} {G : Ghost} {w : World} {σ : St} (h : Inv w0 G w σ) (vs : Array Value) (T : TypeId) (cells : List AV) (hr : RelP G vs cells) (h1 : ∀ v ∈ vs.toList, v.oneCell' = true) :
    G.Le (G.addLoc σ.objs.length w.heap.size vs.size) ∧ Inv w0 (G.addLoc σ.objs.length w.heap.size vs.size) (w.alloc (.cells vs T)) ⟨σ.objs ++ [cells], σ.opn, σ.gl⟩ := by
  have hnone : ∀ i b, G.loc i = some b → i ≠ σ.objs.length := fun i b hi he => by have := h.locdom i b hi; omega
  have hle : G.Le (G.addLoc σ.objs.length w.heap.size vs.size) := ⟨fun _ _ _ h => h, fun i b hi => by simp [Ghost.addLoc, hnone i b hi, hi], fun _ _ h => h, Nat.le_refl _, fun _ h => h, fun i b hi => by simp [Ghost.addLoc, hnone i b hi]⟩
  have hsz := h.below.size
  refine ⟨hle, ⟨h.below.alloc hsz _, fun b o v hf => ?_, fun id c hc hne hs => ?_, fun id b o c hl hc hne => ?_, fun id b hl => ?_, fun id b hl => ?_, fun i j b c d hi hj hc hd hn hn' => ?_, fun t b top en ho ht => ?_, fun t x ht => h.tokdom t x ht, fun t t' x x' a1 a2 a3 a4 => h.tokinj t t' x x' a1 a2 a3 a4, h.nt, fun b hb => ?_, h.gl, h.sp_to hle (fun k o _ hko => heap_alloc_keep _ hko) (objs_snoc hr.nsp)⟩⟩
  · exact ⟨(alloc_cell_lt _ (h.fzlt hf)).trans (h.fz b o v hf).1, (h.fz b o v hf).2⟩
  · by_cases hid : id < σ.objs.length
    · rw [List.getElem?_append_left hid] at hc
      obtain ⟨b, T', vs', e1, e2, e3, e4, e5, e6⟩ := h.loc id c hc hne hs
      exact ⟨b, T', vs', hle.loc _ _ e1, e2, (alloc_heap_lt _ (h.loclt _ _ e1)).trans e3, e4.mono hle, e5, by rw [hle.bsz _ _ e1]; exact e6⟩
    · rw [List.getElem?_append_right (by omega)] at hc
      have : id - σ.objs.length = 0 := by
        rcases Nat.eq_zero_or_pos (id - σ.objs.length) with h0 | h0
        · exact h0
        · rw [List.getElem?_eq_none (by simp; omega)] at hc; cases hc
      have hide : id = σ.objs.length := by omega
      subst hide
      simp at hc
      subst hc
      exact ⟨w.heap.size, T, vs, by simp [Ghost.addLoc], hsz, heap_alloc_new w _, hr.mono hle, h1, by simp [Ghost.addLoc]⟩
  · simp only [Ghost.addLoc] at hl
    split at hl
    · injection hl with hl; subst hl
      cases hz : (G.addLoc σ.objs.length w.heap.size vs.size).fz w.heap.size o with
      | none => rfl
      | some v => exact absurd (h.fzlt (b := w.heap.size) (o := o) hz) (by omega)
    · rw [List.getElem?_append_left (h.locdom id b hl)] at hc
      exact h.locfz id b o c hl hc hne
  · simp only [Ghost.addLoc] at hl
    split at hl
    · injection hl with hl; simp; omega
    · have := h.loclt id b hl; simp; omega
  · simp only [Ghost.addLoc] at hl
    split at hl
    · simp; omega
    · have := h.locdom id b hl; simp; omega
  · simp only [Ghost.addLoc] at hi hj
    split at hi <;> split at hj
    · omega
    · injection hi with hi; subst hi; exact absurd (h.loclt _ _ hj) (by omega)
    · injection hj with hj; subst hj; exact absurd (h.loclt _ _ hi) (by omega)
    · rw [List.getElem?_append_left (h.locdom i b hi)] at hc
      rw [List.getElem?_append_left (h.locdom j b hj)] at hd
      exact h.locinj i j b c d hi hj hc hd hn hn'
  · obtain ⟨e1, ⟨cs, T', e2, e3⟩, e4, e5⟩ := h.tok t b top en ho ht
    have hb : b < w.heap.size := (Array.getElem?_eq_some_iff.1 e2).1
    refine ⟨e1, ⟨cs, T', (alloc_heap_lt _ hb).trans e2, e3⟩, e4, fun id hl => ?_⟩
    simp only [Ghost.addLoc] at hl
    split at hl
    · injection hl with hl; omega
    · rw [List.getElem?_append_left (h.locdom id b hl)]
      exact e5 id hl
  · obtain ⟨k1, k2, k3, k4⟩ := h.lit b hb
    refine ⟨k1, by simp; omega, fun id hl => ?_, k4⟩
    simp only [Ghost.addLoc] at hl
    split at hl
    · injection hl with hl; omega
    · exact k3 id hl

def Ghost.addRow (G : Ghost) (b : Nat) (vs : List Value) (t : Nat) (tk : Option (Nat × Nat × Nat)) : Ghost :=
  { G with fz := fun x o => if x = b then vs[o]? else G.fz x o, tok := fun i => if i = t then (match tk with | some x => some x | none => G.tok i) else G.tok i, nt := if tk.isSome = true then t + 1 else G.nt }
theorem Inv.alloc_row {w0 : World} {G : Ghost} {w : World} {σ : St} (h : Inv w0 G w σ) (cs : Array Value) (T : TypeId) (m : Nat) (hm : m ≤ cs.size) (h1 : ∀ v ∈ cs.toList.take m, v.oneCell' = true) :
    G.Le (G.addRow w.heap.size (cs.toList.take m) σ.opn.length (some (w.heap.size, m, cs.size))) ∧
    Inv w0 (G.addRow w.heap.size (cs.toList.take m) σ.opn.length (some (w.heap.size, m, cs.size))) (w.alloc (.cells cs T)) ⟨σ.objs, σ.opn ++ [true], σ.gl⟩ := by
  have hlt : ∀ b o v, G.fz b o = some v → b ≠ w.heap.size := fun b o v hf => by have := h.fzlt hf; omega
  have htn : ∀ t x, G.tok t = some x → t ≠ σ.opn.length := fun t x ht => by have := h.tokdom t x ht; omega
  have hle : G.Le (G.addRow w.heap.size (cs.toList.take m) σ.opn.length (some (w.heap.size, m, cs.size))) :=
    ⟨fun b o v hf => by simp [Ghost.addRow, hlt b o v hf, hf], fun _ _ h => h, fun t x ht => by simp [Ghost.addRow, htn t x ht, ht], by simp [Ghost.addRow]; have := h.nt; omega, fun _ h => h, fun _ _ _ => rfl⟩
  have hsz := h.below.size
  have hlocb : ∀ id b, G.loc id = some b → b ≠ w.heap.size := fun id b hl => by have := h.loclt _ _ hl; omega
  refine ⟨hle, ⟨h.below.alloc hsz _, fun b o v hf => ?_, fun id c hc hne hs => ?_, fun id b o c hl hc hne => ?_, fun id b hl => by have := h.loclt id b hl; simp; omega, fun id b hl => h.locdom id b hl, h.locinj, fun t b top en ho ht => ?_, fun t x ht => ?_, fun t t' x x' a1 a2 a3 a4 a5 => ?_, by simp [Ghost.addRow], fun b hb => ?_, h.gl, h.sp_alloc hle _⟩⟩
  · simp only [Ghost.addRow] at hf
    split at hf
    · rename_i hb; subst hb
      rw [World.cell?_alloc_new]
      rw [List.getElem?_take] at hf
      split at hf
      · refine ⟨by simpa using hf, h1 v ?_⟩
        refine List.mem_iff_getElem?.2 ⟨o, ?_⟩
        rw [List.getElem?_take]
        simp [*]
      · cases hf
    · exact ⟨(alloc_cell_lt _ (h.fzlt hf)).trans (h.fz b o v hf).1, (h.fz b o v hf).2⟩
  · obtain ⟨b, T', vs', e1, e2, e3, e4, e5⟩ := h.loc id c hc hne hs
    exact ⟨b, T', vs', hle.loc _ _ e1, e2, (alloc_heap_lt _ (h.loclt _ _ e1)).trans e3, e4.mono hle, e5⟩
  · simp only [Ghost.addRow]
    rw [if_neg (hlocb id b hl)]
    exact h.locfz id b o c hl hc hne
  · by_cases htt : t < σ.opn.length
    · have ht' : G.tok t = some (b, top, en) := by
        simp only [Ghost.addRow] at ht
        rw [if_neg (by omega)] at ht
        exact ht
      rw [List.getElem?_append_left htt] at ho
      obtain ⟨e1, ⟨cs', T', e2, e3⟩, e4, e5⟩ := h.tok t b top en ho ht'
      have hb : b < w.heap.size := (Array.getElem?_eq_some_iff.1 e2).1
      refine ⟨e1, ⟨cs', T', (alloc_heap_lt _ hb).trans e2, e3⟩, fun o ho' => ?_, e5⟩
      simp only [Ghost.addRow]
      rw [if_neg (by omega)]
      exact e4 o ho'
    · have : t = σ.opn.length := by
        rcases Nat.lt_or_ge t (σ.opn ++ [true]).length with hx | hx
        · simp at hx; omega
        · rw [List.getElem?_eq_none hx] at ho; cases ho
      subst this
      simp only [Ghost.addRow, if_true] at ht
      injection ht with ht
      injection ht with e1 e2
      injection e2 with e2 e3
      subst e1; subst e2; subst e3
      refine ⟨hsz, ⟨cs, T, heap_alloc_new w _, Nat.le_refl _⟩, fun o ho' => ?_, fun id hl => absurd rfl (hlocb id _ hl)⟩
      simp only [Ghost.addRow, if_true]
      rw [List.getElem?_eq_none]
      simp; omega
  · simp only [Ghost.addRow] at ht
    split at ht
    · simp; omega
    · have := h.tokdom t x ht; simp; omega
  · have key : ∀ t x, (σ.opn ++ [true])[t]? = some true → (G.addRow w.heap.size (cs.toList.take m) σ.opn.length (some (w.heap.size, m, cs.size))).tok t = some x → (t = σ.opn.length ∧ x.1 = w.heap.size) ∨ (t < σ.opn.length ∧ σ.opn[t]? = some true ∧ G.tok t = some x ∧ x.1 < w.heap.size) := by
      intro t x ho ht
      simp only [Ghost.addRow] at ht
      split at ht
      · rename_i he
        injection ht with ht
        exact .inl ⟨he, by rw [← ht]⟩
      · have hlt := h.tokdom t x ht
        rw [List.getElem?_append_left hlt] at ho
        obtain ⟨b, top, en⟩ := x
        obtain ⟨_, ⟨cs', T', e2, _⟩, _, _⟩ := h.tok t b top en ho ht
        exact .inr ⟨hlt, ho, ht, (Array.getElem?_eq_some_iff.1 e2).1⟩
    rcases key t x a1 a3 with ⟨k1, k2⟩ | ⟨k1, k2, k3, k4⟩ <;> rcases key t' x' a2 a4 with ⟨l1, l2⟩ | ⟨l1, l2, l3, l4⟩
    · omega
    · omega
    · omega
    · exact h.tokinj t t' x x' k2 l2 k3 l3 a5
  · obtain ⟨k1, k2, k3, k4⟩ := h.lit b hb
    refine ⟨k1, by simp; omega, k3, fun t x ho ht => ?_⟩
    simp only [Ghost.addRow] at ht
    split at ht
    · injection ht with ht
      rw [← ht]
      simp only
      omega
    · have hlt := h.tokdom t x ht
      rw [List.getElem?_append_left hlt] at ho
      exact k4 t x ho ht

theorem Inv.alloc_fz {w0 : World} {G : Ghost} {w : World} {σ : St} (h : Inv w0 G w σ) (cs : Array Value) (T : TypeId) (h1 : ∀ v ∈ cs.toList, v.oneCell' = true) (fr : Nat × Nat) :
    G.Le (G.addRow w.heap.size cs.toList 0 none) ∧ Inv w0 (G.addRow w.heap.size cs.toList 0 none) (w.alloc (.cells cs T fr)) σ := by
  have hlt : ∀ b o v, G.fz b o = some v → b ≠ w.heap.size := fun b o v hf => by have := h.fzlt hf; omega
  have htok : ∀ t, (G.addRow w.heap.size cs.toList 0 none).tok t = G.tok t := fun t => by simp [Ghost.addRow]
  have hle : G.Le (G.addRow w.heap.size cs.toList 0 none) :=
    ⟨fun b o v hf => by simp [Ghost.addRow, hlt b o v hf, hf], fun _ _ h => h, fun t x ht => by rw [htok]; exact ht, by simp [Ghost.addRow], fun _ h => h, fun _ _ _ => rfl⟩
  have hsz := h.below.size
  have hlocb : ∀ id b, G.loc id = some b → b ≠ w.heap.size := fun id b hl => by have := h.loclt _ _ hl; omega
  refine ⟨hle, ⟨h.below.alloc hsz _, fun b o v hf => ?_, fun id c hc hne hs => ?_, fun id b o c hl hc hne => ?_, fun id b hl => by have := h.loclt id b hl; simp; omega, fun id b hl => h.locdom id b hl, h.locinj, fun t b top en ho ht => ?_, fun t x ht => h.tokdom t x (by rw [← htok]; exact ht), fun t t' x x' a1 a2 a3 a4 a5 => h.tokinj t t' x x' a1 a2 (by rw [← htok]; exact a3) (by rw [← htok]; exact a4) a5, by simp [Ghost.addRow]; exact h.nt, fun b hb => by
    obtain ⟨k1, k2, k3, k4⟩ := h.lit b hb
    exact ⟨k1, by simp; omega, k3, fun t x ho ht => k4 t x ho (by rw [← htok]; exact ht)⟩, h.gl, h.sp_alloc hle _⟩⟩
  · simp only [Ghost.addRow] at hf
    split at hf
    · rename_i hb; subst hb
      refine ⟨?_, h1 v (List.mem_iff_getElem?.2 ⟨o, hf⟩)⟩
      have : (w.alloc (.cells cs T fr)).heap[w.heap.size]? = some (.cells cs T fr) := heap_alloc_new w _
      rw [cell_of_row _ _ _ cs T fr this]
      simpa using hf
    · exact ⟨(alloc_cell_lt _ (h.fzlt hf)).trans (h.fz b o v hf).1, (h.fz b o v hf).2⟩
  · obtain ⟨b, T', vs', e1, e2, e3, e4, e5⟩ := h.loc id c hc hne hs
    exact ⟨b, T', vs', hle.loc _ _ e1, e2, (alloc_heap_lt _ (h.loclt _ _ e1)).trans e3, e4.mono hle, e5⟩
  · simp only [Ghost.addRow]
    rw [if_neg (hlocb id b hl)]
    exact h.locfz id b o c hl hc hne
  · rw [htok] at ht
    obtain ⟨e1, ⟨cs', T', e2, e3⟩, e4, e5⟩ := h.tok t b top en ho ht
    have hb : b < w.heap.size := (Array.getElem?_eq_some_iff.1 e2).1
    refine ⟨e1, ⟨cs', T', (alloc_heap_lt _ hb).trans e2, e3⟩, fun o ho' => ?_, e5⟩
    simp only [Ghost.addRow]
    rw [if_neg (by omega)]
    exact e4 o ho'
def Ghost.addLit (G : Ghost) (b : Nat) : Ghost := { G with lit := fun x => if x = b then true else G.lit x }
theorem Inv.lit_new {w0 : World} {G : Ghost} {w : World} {σ : St} (h : Inv w0 G w σ) {b : Nat} (h1 : w0.heap.size ≤ b) (h2 : b < w.heap.size) (h3 : ∀ id, G.loc id ≠ some b) (h4 : ∀ t x, σ.opn[t]? = some true → G.tok t = some x → x.1 ≠ b) : G.Le (G.addLit b) ∧ Inv w0 (G.addLit b) w σ := by
  have hle : G.Le (G.addLit b) := ⟨fun _ _ _ h => h, fun _ _ h => h, fun _ _ h => h, Nat.le_refl _, fun x hx => by simp only [Ghost.addLit]; split <;> simp [hx], fun _ _ _ => rfl⟩
  refine ⟨hle, ⟨h.below, h.fz, fun id c hc hne hs => ?_, h.locfz, h.loclt, h.locdom, h.locinj, h.tok, h.tokdom, h.tokinj, h.nt, fun x hx => ?_, h.gl, h.sp_to hle (fun _ _ _ h => h) (fun _ _ h _ => h)⟩⟩
  · obtain ⟨b', T', vs', e1, e2, e3, e4, e5⟩ := h.loc id c hc hne hs
    exact ⟨b', T', vs', e1, e2, e3, e4.mono hle, e5⟩
  · simp only [Ghost.addLit] at hx
    split at hx
    · rename_i he; subst he; exact ⟨h1, h2, h3, h4⟩
    · exact h.lit x hx

def flat (es : List AV) : List AV := es.flatMap AV.cells
theorem flat_cons (e : AV) (es : List AV) : flat (e :: es) = e.cells ++ flat es := rfl
theorem flat_append (es fs : List AV) : flat (es ++ fs) = flat es ++ flat fs := by simp [flat]
theorem flat_length {sz : Nat} : ∀ {es : List AV}, (∀ e ∈ es, e.cells.length = sz) → (flat es).length = es.length * sz
  | [], _ => by simp [flat]
  | e :: es, h => by
    rw [flat_cons, List.length_append, flat_length (fun x hx => h x (List.mem_cons_of_mem _ hx)), h e List.mem_cons_self, List.length_cons, Nat.add_mul]
    omega
theorem flat_get {sz : Nat} : ∀ {es : List AV} (_ : ∀ e ∈ es, e.cells.length = sz) {i j : Nat} {e a : AV}, es[i]? = some e → e.cells[j]? = some a → (flat es)[i * sz + j]? = some a
  | [], _, i, j, e, a, h1, _ => by simp at h1
  | x :: es, h, i, j, e, a, h1, h2 => by
    have hx := h x List.mem_cons_self
    cases i with
    | zero =>
      simp at h1; subst h1
      have hj : j < x.cells.length := (List.getElem?_eq_some_iff.1 h2).1
      rw [flat_cons, Nat.zero_mul, Nat.zero_add, List.getElem?_append_left hj]
      exact h2
    | succ i =>
      have := flat_get (fun y hy => h y (List.mem_cons_of_mem _ hy)) (i := i) (by simpa using h1) h2
      rw [flat_cons, List.getElem?_append_right (by rw [hx, Nat.add_mul]; omega), hx]
      rw [show (i + 1) * sz + j - sz = i * sz + j by rw [Nat.add_mul]; omega]
      exact this
theorem flat_at {sz : Nat} {es : List AV} (h : ∀ e ∈ es, e.cells.length = sz) {k : Nat} {a : AV} (hk : (flat es)[k]? = some a) :
    ∃ i e j, k = i * sz + j ∧ j < sz ∧ es[i]? = some e ∧ e.cells[j]? = some a := by
  have hl : k < es.length * sz := by rw [← flat_length h]; exact (List.getElem?_eq_some_iff.1 hk).1
  have hs : 0 < sz := by
    rcases Nat.eq_zero_or_pos sz with h0 | h0
    · subst h0; simp at hl
    · exact h0
  have hi : k / sz < es.length := Nat.div_lt_of_lt_mul (by rw [Nat.mul_comm]; exact hl)
  have hj : k % sz < sz := Nat.mod_lt _ hs
  have hk' : k = k / sz * sz + k % sz := by rw [Nat.mul_comm]; exact (Nat.div_add_mod k sz).symm
  have hz := h es[k / sz] (List.getElem_mem hi)
  refine ⟨k / sz, es[k / sz], k % sz, hk', hj, List.getElem?_eq_getElem hi, ?_⟩
  have hc : k % sz < es[k / sz].cells.length := by rw [hz]; exact hj
  have := flat_get h (List.getElem?_eq_getElem hi) (List.getElem?_eq_getElem hc)
  rw [← hk', hk] at this
  rw [List.getElem?_eq_getElem hc]
  exact this.symm ▸ rfl

def elems : AV → Option (Nat × List AV)
  | .sl _ sz es => some (sz, es)
  | _ => none

structure Row (G : Ghost) (v : Value) (sz : Nat) (es : List AV) (A : Option Addr) (c : Nat) (news : List Value) : Prop where
  val : v = .slice A es.length c
  le : es.length ≤ c
  max : c ≤ maxLen
  hz : ∀ e ∈ es, e.cells.length = sz
  len : news.length = es.length * sz
  rel : RelL G news (flat es)
  at_ : 0 < es.length → ∃ b o, A = some ⟨b, o, none⟩ ∧ ∀ j u, news[j]? = some u → G.fz b (o + j) = some u
theorem Rel.row {G : Ghost} {v : Value} {t : Tok} {sz : Nat} {es : List AV} (h : Rel G v (.sl t sz es)) : ∃ A c news, Row G v sz es A c news := by
  cases h with
  | sl0 A c t sz hm ht => exact ⟨A, c, [], rfl, Nat.zero_le _, hm, (fun e he => by cases he), (by simp), RelL.nil G, (fun h => by simp at h)⟩
  | sl b o c t sz es val hc hm hz hf h ht =>
    have hlen := flat_length hz
    refine ⟨some ⟨b, o, none⟩, c, (List.range (es.length * sz)).map (fun k => val (k / sz) (k % sz)), rfl, hc, hm, hz, by simp, ⟨by simp [hlen], fun k v a h1 h2 => ?_⟩, fun _ => ⟨b, o, rfl, fun k u h1 => ?_⟩⟩
    · obtain ⟨i, e, j, rfl, hj, h3, h4⟩ := flat_at hz h2
      have : (i * sz + j) / sz = i ∧ (i * sz + j) % sz = j := by
        rw [Nat.mul_comm, Nat.mul_add_div (by omega), Nat.mul_add_mod]
        exact ⟨by rw [Nat.div_eq_of_lt hj]; rfl, Nat.mod_eq_of_lt hj⟩
      rw [List.getElem?_map] at h1
      simp only [Option.map_eq_some_iff] at h1
      obtain ⟨k, hk, rfl⟩ := h1
      have hk' : k = i * sz + j := by
        have := (List.getElem?_eq_some_iff.1 hk).2
        simpa using this.symm
      subst hk'
      rw [this.1, this.2]
      exact h i e j a h3 h4
    · rw [List.getElem?_map] at h1
      simp only [Option.map_eq_some_iff] at h1
      obtain ⟨k', hk, rfl⟩ := h1
      obtain ⟨hlt, he⟩ := List.getElem?_eq_some_iff.1 hk
      simp at hlt he
      subst he
      obtain ⟨a, ha⟩ : ∃ a, (flat es)[k]? = some a := ⟨_, List.getElem?_eq_getElem (by rw [hlen]; exact hlt)⟩
      obtain ⟨i, e, j, rfl, hj, h3, h4⟩ := flat_at hz ha
      have : (i * sz + j) / sz = i ∧ (i * sz + j) % sz = j := by
        rw [Nat.mul_comm, Nat.mul_add_div (by omega), Nat.mul_add_mod]
        exact ⟨by rw [Nat.div_eq_of_lt hj]; rfl, Nat.mod_eq_of_lt hj⟩
      rw [this.1, this.2, ← Nat.add_assoc]
      exact hf i e j a h3 h4
theorem Rel.mkSl {G : Ghost} {b o c sz : Nat} {t : Tok} {es : List AV} {news : List Value} (hc : es.length ≤ c) (hm : c ≤ maxLen) (hz : ∀ e ∈ es, e.cells.length = sz) (hr : RelL G news (flat es))
    (hf : ∀ j u, news[j]? = some u → G.fz b (o + j) = some u) (ht : TokOk G t b o es.length c sz) : Rel G (.slice (some ⟨b, o, none⟩) es.length c) (.sl t sz es) := by
  have key : ∀ (i : Nat) (e : AV) (j : Nat) (a : AV), es[i]? = some e → e.cells[j]? = some a → ∃ u, news[i * sz + j]? = some u ∧ Rel G u a := fun i e j a h1 h2 => hr.get (flat_get hz h1 h2)
  refine .sl b o c t sz es (fun i j => (news[i * sz + j]?).getD undef) hc hm hz (fun i e j a h1 h2 => ?_) (fun i e j a h1 h2 => ?_) ht
  · obtain ⟨u, hu, _⟩ := key i e j a h1 h2
    rw [hu, Nat.add_assoc]
    exact hf _ u hu
  · obtain ⟨u, hu, hr⟩ := key i e j a h1 h2
    rw [hu]
    exact hr

theorem Row.one {w0 : World} {G : Ghost} {w : World} {σ : St} (hI : Inv w0 G w σ) {v : Value} {sz : Nat} {es : List AV} {A : Option Addr} {c : Nat} {news : List Value} (h : Row G v sz es A c news) : ∀ u ∈ news, u.oneCell' = true := by
  intro u hu
  obtain ⟨j, hj⟩ := List.mem_iff_getElem?.1 hu
  have hp : 0 < es.length := by
    rcases Nat.eq_zero_or_pos es.length with h0 | h0
    · have := h.len; rw [h0, Nat.zero_mul] at this
      rw [List.eq_nil_of_length_eq_zero this] at hj; simp at hj
    · exact h0
  obtain ⟨b, o, _, hf⟩ := h.at_ hp
  exact (hI.fz b _ u (hf j u hj)).2
theorem Row.src {P : Program} {w0 : World} {G : Ghost} {w : World} {σ : St} (hI : Inv w0 G w σ) {v : Value} {sz : Nat} {es : List AV} {A : Option Addr} {c : Nat} {news : List Value} (h : Row G v sz es A c news) {tx e' : TypeId} (hk : P.underlying tx = some (.slice e')) :
    Src P sz tx v es.length news w := by
  have h1 := h.one hI
  rw [h.val]
  cases A with
  | some a =>
    refine Src.ofSlice w hk a _ _ _ h.len (fun j u hu => ?_) h1
    have hp : 0 < es.length := by
      rcases Nat.eq_zero_or_pos es.length with h0 | h0
      · have := h.len; rw [h0, Nat.zero_mul] at this
        rw [List.eq_nil_of_length_eq_zero this] at hu; simp at hu
      · exact h0
    obtain ⟨b, o, he, hf⟩ := h.at_ hp
    injection he with he
    subst he
    rw [Addr.add_lit]
    exact (hI.fz b _ u (hf j u hu)).1
  | none =>
    have h0 : es.length = 0 := by
      rcases Nat.eq_zero_or_pos es.length with h0 | h0
      · exact h0
      · obtain ⟨b, o, he, _⟩ := h.at_ h0; cases he
    have hn : news = [] := List.eq_nil_of_length_eq_zero (by rw [h.len, h0, Nat.zero_mul])
    rw [h0, hn]
    exact Src.ofNil w hk c

theorem setCells_other (b : Nat) : ∀ (vs : List Value) (o : Nat) (w : World) (k : Nat), k ≠ b → (w.setCells b o vs).heap[k]? = w.heap[k]?
  | [], _, _, _, _ => rfl
  | v :: vs, o, w, k, h => by
    rw [World.setCells, setCells_other b vs (o + 1) _ k h]
    exact heap_setCell_other w ⟨b, o, none⟩ k v h
theorem setCells_same (b : Nat) {T : TypeId} : ∀ (vs : List Value) (o : Nat) (w : World) (cs : Array Value), w.heap[b]? = some (.cells cs T (0, 0)) → ∃ cs', (w.setCells b o vs).heap[b]? = some (.cells cs' T (0, 0)) ∧ cs'.size = cs.size
  | [], _, _, cs, h => ⟨cs, h, rfl⟩
  | v :: vs, o, w, cs, h => by
    obtain ⟨cs', h1, h2⟩ := setCells_same b vs (o + 1) (w.setCell ⟨b, o, none⟩ v) _ (heap_setCell_same w b o cs T v h)
    exact ⟨cs', h1, by rw [h2]; simp⟩
theorem setCells_size (b : Nat) : ∀ (vs : List Value) (o : Nat) (w : World), (w.setCells b o vs).heap.size = w.heap.size
  | [], _, _ => rfl
  | v :: vs, o, w => by rw [World.setCells, setCells_size b vs]; simp
theorem setCells_below {B : Nat} {a : World} (b : Nat) (hb : B ≤ b) : ∀ (vs : List Value) (o : Nat) (w : World), Below B a w → Below B a (w.setCells b o vs)
  | [], _, _, h => h
  | v :: vs, o, w, h => setCells_below b hb vs (o + 1) _ (h.setCell hb v)

theorem Inv.sub {w0 : World} {G : Ghost} {w : World} {σ σ' : St} (h : Inv w0 G w σ) (ho : σ'.objs = σ.objs) (hgl : σ'.gl = σ.gl) (hl : σ.opn.length ≤ σ'.opn.length) (ht : ∀ t, σ'.opn[t]? = some true → σ.opn[t]? = some true ∨ G.tok t = none) : Inv w0 G w σ' := by
  obtain ⟨ob, op, gl⟩ := σ'
  simp only at ho hgl
  subst ho
  subst hgl
  have key : ∀ t x, op[t]? = some true → G.tok t = some x → σ.opn[t]? = some true := fun t x h1 h2 => (ht t h1).resolve_right (by rw [h2]; simp)
  exact ⟨h.below, h.fz, h.loc, h.locfz, h.loclt, h.locdom, h.locinj, fun t b top en h1 h2 => h.tok t b top en (key t _ h1 h2) h2, fun t x hx => Nat.lt_of_lt_of_le (h.tokdom t x hx) hl,
    fun t t' x x' h1 h2 h3 h4 h5 => h.tokinj t t' x x' (key t _ h1 h3) (key t' _ h2 h4) h3 h4 h5, Nat.le_trans h.nt hl, fun b hb => ⟨(h.lit b hb).1, (h.lit b hb).2.1, (h.lit b hb).2.2.1, fun t x ho htk => (h.lit b hb).2.2.2 t x (key t x ho htk) htk⟩, h.gl, h.sp_to (.refl G) (fun _ _ _ h => h) (fun _ _ h _ => h)⟩

def Ghost.addIn (G : Ghost) (b top : Nat) (news : List Value) (t : Nat) (en : Nat) : Ghost :=
  { G with fz := fun x o => if x = b ∧ top ≤ o ∧ o < top + news.length then news[o - top]? else G.fz x o, tok := fun i => if i = t then some (b, top + news.length, en) else G.tok i, nt := t + 1 }
theorem Inv.append_in {w0 : World} {G : Ghost} {w : World} {σ : St} (h : Inv w0 G w σ) {t b top en : Nat} (ho : σ.opn[t]? = some true) (hg : G.tok t = some (b, top, en)) (news : List Value) (h1 : ∀ v ∈ news, v.oneCell' = true) (hfit : top + news.length ≤ en) :
    G.Le (G.addIn b top news σ.opn.length en) ∧ Inv w0 (G.addIn b top news σ.opn.length en) (w.setCells b top news) ⟨σ.objs, σ.opn.set t false ++ [true], σ.gl⟩ := by
  obtain ⟨e1, ⟨cs, T, e2, e3⟩, e4, e5⟩ := h.tok t b top en ho hg
  have htn : ∀ t x, G.tok t = some x → t ≠ σ.opn.length := fun t x ht => by have := h.tokdom t x ht; omega
  have hle : G.Le (G.addIn b top news σ.opn.length en) :=
    ⟨fun x o v hf => by
      simp only [Ghost.addIn]
      rw [if_neg (fun ⟨hx, ho, _⟩ => by subst hx; rw [e4 o ho] at hf; cases hf)]
      exact hf, fun _ _ h => h, fun t x ht => by simp [Ghost.addIn, htn t x ht, ht], by simp only [Ghost.addIn]; have := h.nt; omega, fun _ h => h, fun _ _ _ => rfl⟩
  have hthere : ∀ j, j < news.length → (w.cell? ⟨b, top + j, none⟩).isSome = true := fun j hj => by
    rw [cell_of_row _ _ _ cs T (0, 0) e2, Array.getElem?_eq_getElem (by omega)]; rfl
  obtain ⟨cs', e6, e7⟩ := setCells_same b news top w cs e2
  have htokc : ∀ t' x, (σ.opn.set t false ++ [true])[t']? = some true → (G.addIn b top news σ.opn.length en).tok t' = some x → (t' = σ.opn.length ∧ x = (b, top + news.length, en)) ∨ (t' ≠ t ∧ σ.opn[t']? = some true ∧ G.tok t' = some x ∧ x.1 ≠ b) := by
    intro t' x ho' ht'
    simp only [Ghost.addIn] at ht'
    split at ht'
    · rename_i he
      injection ht' with ht'
      exact .inl ⟨he, ht'.symm⟩
    · have hlt := h.tokdom t' x ht'
      rw [List.getElem?_append_left (by simpa using hlt), List.getElem?_set] at ho'
      by_cases htt : t = t'
      · subst htt; simp [hlt] at ho'
      · simp only [htt, if_false] at ho'
        refine .inr ⟨Ne.symm htt, ho', ht', fun hb => ?_⟩
        exact htt (h.tokinj t t' _ x ho ho' hg ht' hb.symm)
  refine ⟨hle, ⟨setCells_below b e1 news top w h.below, fun x o v hf => ?_, fun id c hc hn hs => ?_, fun id x o c hl hc hn => ?_, fun id x hl => by rw [setCells_size]; exact h.loclt id x hl, fun id x hl => h.locdom id x hl, h.locinj, fun t' b' top' en' ho' ht' => ?_, fun t' x ht' => ?_, fun t1 t2 x1 x2 a1 a2 a3 a4 a5 => ?_, by simp [Ghost.addIn], fun x hx => ?_, h.gl, h.sp_other hle e2 (fun k hk => setCells_other b news top w k hk)⟩⟩
  · simp only [Ghost.addIn] at hf
    split at hf
    · rename_i hc
      obtain ⟨rfl, hc1, hc2⟩ := hc
      obtain ⟨hlt, hv⟩ := List.getElem?_eq_some_iff.1 hf
      refine ⟨?_, h1 v (List.mem_iff_getElem?.2 ⟨_, hf⟩)⟩
      have := World.cell?_setCells_in x news top w hthere (o - top) hlt
      rw [show top + (o - top) = o by omega] at this
      rw [this, ← hv]
    · rename_i hc
      refine ⟨?_, (h.fz x o v hf).2⟩
      rw [World.cell?_setCells_out b news top w ⟨x, o, none⟩ (fun hx _ => ?_)]
      · exact (h.fz x o v hf).1
      · simp only at hx ⊢
        omega
  · obtain ⟨b', T', vs', k1, k2, k3, k4, k5⟩ := h.loc id c hc hn hs
    have hne : b' ≠ b := fun he => hn (Option.some.inj ((e5 id (he ▸ k1)).symm.trans hc)).symm
    exact ⟨b', T', vs', k1, k2, (setCells_other b news top w b' hne).trans k3, k4.mono hle, k5⟩
  · simp only [Ghost.addIn]
    rw [if_neg (fun ⟨hx, _⟩ => hn (Option.some.inj ((e5 id (hx ▸ hl)).symm.trans hc)).symm)]
    exact h.locfz id x o c hl hc hn
  · rcases htokc t' _ ho' ht' with ⟨rfl, he⟩ | ⟨k1, k2, k3, k4⟩
    · injection he with he1 he2
      injection he2 with he2 he3
      subst he1; subst he2; subst he3
      refine ⟨e1, ⟨cs', T, e6, by omega⟩, fun o ho => ?_, e5⟩
      simp only [Ghost.addIn]
      rw [if_neg (by omega)]
      exact e4 o (by omega)
    · obtain ⟨f1, ⟨cs2, T2, f2, f3⟩, f4, f5⟩ := h.tok t' b' top' en' k2 k3
      refine ⟨f1, ⟨cs2, T2, (setCells_other b news top w b' k4).trans f2, f3⟩, fun o ho => ?_, f5⟩
      simp only [Ghost.addIn]
      rw [if_neg (fun ⟨hx, _⟩ => k4 hx)]
      exact f4 o ho
  · simp only [Ghost.addIn] at ht'
    split at ht'
    · simp; omega
    · have := h.tokdom t' x ht'; simp; omega
  · rcases htokc t1 x1 a1 a3 with ⟨rfl, rfl⟩ | ⟨k1, k2, k3, k4⟩ <;> rcases htokc t2 x2 a2 a4 with ⟨rfl, rfl⟩ | ⟨l1, l2, l3, l4⟩
    · rfl
    · exact absurd a5.symm l4
    · exact absurd a5 k4
    · exact h.tokinj t1 t2 x1 x2 k2 l2 k3 l3 a5
  · obtain ⟨k1, k2, k3, k4⟩ := h.lit x hx
    refine ⟨k1, by rw [setCells_size]; exact k2, k3, fun t' y ho' ht' => ?_⟩
    rcases htokc t' _ ho' ht' with ⟨rfl, rfl⟩ | ⟨l1, l2, l3, l4⟩
    · exact fun hb => k4 t _ ho hg hb
    · exact k4 t' y l2 l3

def byteAVs (s : ByteArray) : List AV := s.data.toList.map fun b => AV.int .u8 b.toNat
def srcOf (Ty : TypeId → Option TI) (tx : TypeId) (sz : Nat) (σ : St) : AV → Option (List AV)
  | .nils => match tdOf Ty tx with | .slice _ => some [] | _ => none
  | .sl _ sz' es => match tdOf Ty tx with | .slice _ => if sz' = sz then some es else none | _ => none
  | .str s => match tdOf Ty tx with | .str => if sz = 1 then some (byteAVs s) else none | _ => none
  | .msl id off len => match tdOf Ty tx with
    | .slice _ => match σ.row id with
      | some cells => if sz = 1 ∧ off + len ≤ cells.length then some ((cells.drop off).take len) else none
      | none => none
    | _ => none
  | _ => none
theorem one_cells {G : Ghost} {v : Value} {a : AV} (h : Rel G v a) (h1 : v.oneCell' = true) : a.cells = [a] := by
  cases h <;> first | rfl | (simp [Value.oneCell'] at h1)
theorem flat_one : ∀ {aas : List AV}, (∀ a ∈ aas, a.cells = [a]) → flat aas = aas
  | [], _ => rfl
  | a :: aas, h => by rw [flat_cons, h a List.mem_cons_self, flat_one (fun x hx => h x (List.mem_cons_of_mem _ hx))]; rfl
theorem srcOf_sound {P : Program} {Ty : TypeId → Option TI} (hT : TyOk P Ty) {w0 : World} {G : Ghost} {w : World} {σ : St} (hI : Inv w0 G w σ) {tx : TypeId} {sz : Nat} {y : AV} {vy : Value} (hy : Rel G vy y) {ys : List AV} (h : srcOf Ty tx sz σ y = some ys) :
    ∃ news, Src P sz tx vy ys.length news w ∧ RelL G news (flat ys) ∧ (∀ e ∈ ys, e.cells.length = sz) := by
  unfold srcOf at h
  split at h
  · split at h <;> simp at h
    rename_i e hd
    subst h
    cases hy
    exact ⟨[], Src.ofNil w (tdOf_ok hT hd (by simp)) 0, RelL.nil G, fun e he => by cases he⟩
  · split at h <;> simp at h
    rename_i e hd
    obtain ⟨rfl, rfl⟩ := h
    obtain ⟨A, c, news, hr⟩ := hy.row
    exact ⟨news, hr.src hI (tdOf_ok hT hd (by simp)), hr.rel, hr.hz⟩
  · split at h <;> simp at h
    rename_i s x hd
    obtain ⟨rfl, rfl⟩ := h
    cases hy
    have hl : (byteAVs s).length = s.size := by rw [byteAVs, List.length_map, Array.length_toList]; rfl
    have h1 : ∀ a ∈ byteAVs s, a.cells = [a] := fun a ha => by
      obtain ⟨b, _, rfl⟩ := List.mem_map.1 ha
      rfl
    rw [hl]
    refine ⟨byteCells s, Src.ofString w (tdOf_ok hT hd (by simp)) s, ?_, fun e he => by rw [h1 e he]; rfl⟩
    rw [flat_one h1]
    refine ⟨by rw [byteCells_length, hl], fun i v a h2 h3 => ?_⟩
    unfold byteCells at h2
    unfold byteAVs at h3
    rw [List.getElem?_map] at h2 h3
    cases hb : s.data.toList[i]? with
    | none => rw [hb] at h2; cases h2
    | some b => rw [hb] at h2 h3; cases h2; cases h3; exact .int _ _
  · rename_i id off len
    split at h
    case h_2 => cases h
    rename_i e hd
    split at h
    case h_2 => cases h
    rename_i cells hc
    obtain ⟨hc, hsp⟩ := row_some hc
    simp at h
    obtain ⟨⟨rfl, hle⟩, rfl⟩ := h
    cases hy
    rename_i c b hl hlec
    by_cases hnil : cells = []
    · subst hnil
      obtain rfl : len = 0 := by simp at hle; omega
      exact ⟨[], by simpa using Src.ofSlice w (tdOf_ok hT hd (by simp)) ⟨b, off, none⟩ 0 c [] rfl (fun j u hu => by simp at hu) (fun u hu => by cases hu), by simp; exact RelL.nil G, fun e he => by simp at he⟩
    obtain ⟨b', T, vs, k1, k2, k3, k4, k5, _⟩ := hI.loc id cells hc hnil hsp
    rw [hl] at k1
    injection k1 with k1
    subst k1
    have hlen : cells.length ≤ vs.size := k4.le
    have hr : RelL G ((vs.toList.drop off).take len) ((cells.drop off).take len) := by
      have := (k4.rel.drop off).take len
      rw [List.drop_take, List.take_take, Nat.min_eq_left (by omega)] at this
      exact this
    have h1 : ∀ u ∈ (vs.toList.drop off).take len, u.oneCell' = true := fun u hu => k5 u (List.mem_of_mem_drop (List.mem_of_mem_take hu))
    have hn : ((cells.drop off).take len).length = len := by simp; omega
    have h2 : ∀ a ∈ (cells.drop off).take len, a.cells = [a] := fun a ha => by
      obtain ⟨j, hj⟩ := List.mem_iff_getElem?.1 ha
      obtain ⟨u, hu, hru⟩ := hr.get hj
      exact one_cells hru (h1 u (List.mem_iff_getElem?.2 ⟨j, hu⟩))
    refine ⟨(vs.toList.drop off).take len, ?_, by rw [flat_one h2]; exact hr, fun e he => by rw [h2 e he]; rfl⟩
    rw [hn]
    refine Src.ofSlice w (tdOf_ok hT hd (by simp)) ⟨b, off, none⟩ len c _ (by simp; omega) (fun j u hu => ?_) h1
    rw [Addr.add_lit, cell_of_row _ _ _ vs T (0, 0) k3]
    rw [List.getElem?_take] at hu
    split at hu
    · rw [List.getElem?_drop] at hu
      simpa using hu
    · cases hu
  · cases h

def baseOf (sz : Nat) (σ : St) : AV → Option (Tok × List AV)
  | .nils => some (.full, [])
  | .sl .full sz' es => if sz' = sz then some (.full, es) else none
  | .sl (.own t) sz' es => if sz' = sz ∧ σ.opn[t]? = some true then some (.own t, es) else none
  | _ => none
def closed (σ : St) : Tok → St
  | .own t => ⟨σ.objs, σ.opn.set t false ++ [true], σ.gl⟩
  | _ => ⟨σ.objs, σ.opn ++ [true], σ.gl⟩
def aappend (Ty : TypeId → Option TI) (t tx : TypeId) (x y : AV) (σ : St) : Option (AV × St) :=
  match tdOf Ty t with
  | .slice e => match Ty e with
    | some i => match baseOf i.sz σ x, srcOf Ty tx i.sz σ y with
      | some (k, es), some ys => if 0 < i.bytes ∧ (es.length + ys.length) * i.bytes ≤ 140737488355328 then some (.sl (.own σ.opn.length) i.sz (es ++ ys), closed σ k) else none
      | _, _ => none
    | none => none
  | _ => none

theorem close_sub (σ : St) (k : Tok) : (closed σ k).objs = σ.objs ∧ σ.opn.length ≤ (closed σ k).opn.length ∧ ∀ t, (closed σ k).opn[t]? = some true → σ.opn[t]? = some true ∨ σ.opn.length ≤ t := by
  cases k <;> refine ⟨rfl, by simp [closed], fun t h => ?_⟩ <;> simp only [closed] at h
  · by_cases ht : t < σ.opn.length
    · rw [List.getElem?_append_left ht] at h; exact .inl h
    · exact .inr (by omega)
  · by_cases ht : t < σ.opn.length
    · rw [List.getElem?_append_left ht] at h; exact .inl h
    · exact .inr (by omega)
  · rename_i t0
    by_cases ht : t < σ.opn.length
    · rw [List.getElem?_append_left (by simpa using ht), List.getElem?_set] at h
      split at h
      · simp at h
      · exact .inl h
    · exact .inr (by omega)
def Ghost.more (G : Ghost) (m : Nat) : Ghost := { G with nt := m + 1 }
theorem Inv.closed {w0 : World} {G : Ghost} {w : World} {σ : St} (h : Inv w0 G w σ) (k : Tok) : G.Le (G.more σ.opn.length) ∧ Inv w0 (G.more σ.opn.length) w (closed σ k) := by
  have hle : G.Le (G.more σ.opn.length) := ⟨fun _ _ _ h => h, fun _ _ h => h, fun _ _ h => h, by simp only [Ghost.more]; have := h.nt; omega, fun _ h => h, fun _ _ _ => rfl⟩
  refine ⟨hle, ?_⟩
  have hx : Inv w0 G w (Va.closed σ k) := ?_
  · exact ⟨hx.below, hx.fz, fun id c hc hn hs => by
      obtain ⟨b, T, vs, e1, e2, e3, e4, e5⟩ := hx.loc id c hc hn hs
      exact ⟨b, T, vs, e1, e2, e3, e4.mono hle, e5⟩, hx.locfz, hx.loclt, hx.locdom, hx.locinj, hx.tok, hx.tokdom, hx.tokinj, by cases k <;> simp [Ghost.more, Va.closed], hx.lit, hx.gl, hx.sp_to hle (fun _ _ _ h => h) (fun _ _ h _ => h)⟩
  obtain ⟨h1, h2, h3⟩ := close_sub σ k
  refine h.sub h1 (by cases k <;> rfl) h2 (fun t ht => (h3 t ht).imp id (fun hle => ?_))
  cases hx : G.tok t with
  | none => rfl
  | some x => have := h.tokdom t x hx; omega
theorem Inv.closed' {w0 : World} {G : Ghost} {w : World} {σ : St} (h : Inv w0 G w ⟨σ.objs, σ.opn ++ [true], σ.gl⟩) (k : Tok) : Inv w0 G w (Va.closed σ k) := by
  refine h.sub (close_sub σ k).1 (by cases k <;> rfl) (by cases k <;> simp [Va.closed]) (fun t ht => .inl ?_)
  cases k <;> simp only [Va.closed] at ht
  · exact ht
  · exact ht
  · rename_i t0
    by_cases hlt : t < σ.opn.length
    · rw [List.getElem?_append_left (by simpa using hlt), List.getElem?_set] at ht
      rw [List.getElem?_append_left hlt]
      split at ht
      · simp at ht
      · exact ht
    · rw [List.getElem?_append_right (by simpa using hlt)] at ht
      rw [List.getElem?_append_right (by omega)]
      simpa using ht

theorem baseOf_sound {w0 : World} {G : Ghost} {w : World} {σ : St} (hI : Inv w0 G w σ) {sz : Nat} {x : AV} {vx : Value} (hx : Rel G vx x) {k : Tok} {es : List AV} (h : baseOf sz σ x = some (k, es)) :
    ∃ A c olds, Row G vx sz es A c olds ∧ (es.length = c ∨ ∃ t b o, k = .own t ∧ σ.opn[t]? = some true ∧ A = some ⟨b, o, none⟩ ∧ G.tok t = some (b, o + es.length * sz, o + c * sz)) := by
  unfold baseOf at h
  split at h
  · simp at h
    obtain ⟨rfl, rfl⟩ := h
    cases hx
    exact ⟨none, 0, [], ⟨rfl, Nat.le_refl _, Nat.zero_le _, (fun e he => by cases he), (by simp), RelL.nil G, (fun h => by simp at h)⟩, .inl rfl⟩
  · split at h
    case isFalse => cases h
    rename_i hs
    simp at h
    obtain ⟨rfl, rfl⟩ := h
    subst hs
    obtain ⟨A, c, news, hr⟩ := hx.row
    refine ⟨A, c, news, hr, .inl ?_⟩
    have hv := hr.val
    cases hx with
    | sl b o c' t sz es val hc hm hz hf h ht => injection hv with _ _ e3; subst e3; exact ht.1
    | sl0 A c' t sz hm ht => injection hv with _ _ e3; subst e3; exact (ht.resolve_left (by simp)).1.symm
  · split at h
    case isFalse => cases h
    rename_i t _ _ hs
    simp at h
    obtain ⟨rfl, rfl⟩ := h
    obtain ⟨rfl, ho⟩ := hs
    obtain ⟨A, c, news, hr⟩ := hx.row
    refine ⟨A, c, news, hr, ?_⟩
    have hv := hr.val
    cases hx with
    | sl b o c' t sz es val hc hm hz hf h ht =>
      injection hv with e1 _ e3; subst e3
      rcases ht.2 with ht | ht
      · exact .inl ht
      · exact .inr ⟨t, b, o, rfl, ho, e1.symm, ht⟩
    | sl0 A c' t sz hm ht =>
      injection hv with _ _ e3; subst e3
      exact .inl (ht.resolve_left (by simp)).1.symm
  · cases h

theorem aappend_sound {P : Program} {Ty : TypeId → Option TI} (hT : TyOk P Ty) {w0 : World} {G : Ghost} {w : World} {σ : St} (hI : Inv w0 G w σ) (t tx ty : TypeId) {x y : AV} {vx vy : Value} (hx : Rel G vx x) (hy : Rel G vy y) {a : AV} {σ' : St}
    (h : aappend Ty t tx x y σ = some (a, σ')) : ∃ v w' G', (Builtin.append_ #[t, tx] ty #[vx, vy]).run P w = .ok v w' ∧ G.Le G' ∧ Inv w0 G' w' σ' ∧ Rel G' v a := by
  unfold aappend at h
  split at h
  case h_2 => cases h
  rename_i e hd
  split at h
  case h_2 => cases h
  rename_i i hi
  split at h
  case h_2 => cases h
  rename_i k es ys hb hs
  split at h
  case isFalse => cases h
  rename_i hbytes
  simp at h
  obtain ⟨rfl, rfl⟩ := h
  obtain ⟨hd2, ti, z, g1, g2, g3, g4, g5, g6, g7, g8⟩ := hT e i hi
  have ht := tdOf_ok hT hd (by simp)
  obtain ⟨A, c, olds, hR, hroom⟩ := baseOf_sound hI hx hb
  obtain ⟨news, hS, hN, hyz⟩ := srcOf_sound hT hI hy hs
  have hS' : Src P ti.size tx vy ys.length news w := by rw [g2]; exact hS
  have hnl : news.length = ys.length * i.sz := hS.newsLen
  have hz : ∀ e ∈ es ++ ys, e.cells.length = i.sz := fun e he => (List.mem_append.1 he).elim (hR.hz e) (hyz e)
  have hrel : RelL G (olds ++ news) (flat (es ++ ys)) := by rw [flat_append]; exact hR.rel.append hN
  have hmx : es.length + ys.length ≤ 140737488355328 := by
    have := hbytes.2
    calc es.length + ys.length = (es.length + ys.length) * 1 := (Nat.mul_one _).symm
      _ ≤ (es.length + ys.length) * i.bytes := Nat.mul_le_mul_left _ hbytes.1
      _ ≤ _ := this
  have hlen2 : (es ++ ys).length = es.length + ys.length := List.length_append
  have h1o := hR.one hI
  by_cases hfit : es.length + ys.length ≤ c
  · by_cases h0 : ys.length = 0
    · -- nothing is appended
      have hys : ys = [] := List.eq_nil_of_length_eq_zero h0
      subst hys
      have hnn : news = [] := List.eq_nil_of_length_eq_zero (by rw [hnl]; simp)
      subst hnn
      have hrun := run_append_nothing (P := P) w t tx ty e ti ht g1 A es.length c hR.le vy hS'
      rw [← hR.val] at hrun
      rcases hroom with hc | ⟨t0, b, o, rfl, ho, rfl, htok⟩
      · obtain ⟨hle, hI'⟩ := hI.closed k
        refine ⟨vx, w, _, hrun, hle, hI', ?_⟩
        have htin : σ.opn.length < (G.more σ.opn.length).nt := Nat.lt_succ_self _
        rw [List.append_nil]
        rcases Nat.eq_zero_or_pos es.length with hz0 | hz0
        · have : es = [] := List.eq_nil_of_length_eq_zero hz0
          subst this
          rw [hR.val]
          exact .sl0 A c _ _ hR.max (.inr ⟨hc.symm, htin⟩)
        · obtain ⟨b, o, rfl, hf⟩ := hR.at_ hz0
          rw [hR.val]
          exact Rel.mkSl hR.le hR.max hR.hz (hR.rel.mono hle) hf ⟨htin, .inl hc⟩
      · obtain ⟨hle, hI'⟩ := hI.append_in ho htok [] (fun v hv => by cases hv) (by
          have := Nat.mul_le_mul_right i.sz hR.le; simp; omega)
        refine ⟨vx, w, _, hrun, hle, hI', ?_⟩
        rw [List.append_nil, hR.val]
        refine Rel.mkSl hR.le hR.max hR.hz (hR.rel.mono hle) (fun j u hu => ?_) ⟨Nat.lt_succ_self _, .inr ?_⟩
        · have hp : 0 < es.length := by
            rcases Nat.eq_zero_or_pos es.length with hz0 | hz0
            · have := hR.len; rw [hz0, Nat.zero_mul] at this
              rw [List.eq_nil_of_length_eq_zero this] at hu; simp at hu
            · exact hz0
          obtain ⟨b', o', he, hf⟩ := hR.at_ hp
          injection he with he
          injection he with he1 he2
          subst he1; subst he2
          exact hle.fz _ _ _ (hf j u hu)
        · simp [Ghost.addIn]
    · -- there is room
      rcases hroom with hc | ⟨t0, b, o, rfl, ho, rfl, htok⟩
      · omega
      obtain ⟨_, ⟨cs, T, e2, e3⟩, _, _⟩ := hI.tok t0 _ _ _ ho htok
      have hcap : o + es.length * i.sz + news.length ≤ o + c * i.sz := by
        rw [hnl, Nat.add_assoc, ← Nat.add_mul]
        exact Nat.add_le_add_left (Nat.mul_le_mul_right _ hfit) _
      obtain ⟨hle, hI'⟩ := hI.append_in ho htok news hS.one hcap
      have hrun := run_append_room_src (P := P) w t tx ty e ti ht g1 b o es.length c vy ys.length news hS' hfit
        (fun j hj => by rw [cell_of_row _ _ _ cs T (0, 0) e2, Array.getElem?_eq_getElem (by rw [g2]; omega)]; rfl)
        (fun j hj => frozen_of_row _ _ _ cs T e2)
      rw [← hR.val, g2] at hrun
      refine ⟨_, _, _, hrun, hle, hI', ?_⟩
      rw [← hlen2]
      refine Rel.mkSl (by rw [hlen2]; exact hfit) hR.max hz (hrel.mono hle) (fun j u hu => ?_) ⟨Nat.lt_succ_self _, .inr ?_⟩
      · by_cases hj : j < olds.length
        · rw [List.getElem?_append_left hj] at hu
          have hp : 0 < es.length := by
            rcases Nat.eq_zero_or_pos es.length with hz0 | hz0
            · have := hR.len; rw [hz0, Nat.zero_mul] at this; omega
            · exact hz0
          obtain ⟨b', o', he, hf⟩ := hR.at_ hp
          injection he with he
          injection he with he1 he2
          subst he1; subst he2
          exact hle.fz _ _ _ (hf j u hu)
        · rw [List.getElem?_append_right (by omega)] at hu
          have hlt := (List.getElem?_eq_some_iff.1 hu).1
          have hol := hR.len
          simp only [Ghost.addIn]
          rw [if_pos ⟨trivial, by omega, by omega⟩, show o + j - (o + es.length * i.sz) = j - olds.length by omega]
          exact hu
      · simp only [Ghost.addIn, if_true, Option.some.injEq, Prod.mk.injEq, true_and]
        rw [hlen2, hnl, Nat.add_mul]
        exact ⟨by omega, trivial⟩
  · -- a new row
    have hold : (Builtin.firstCells ti.size es.length (.slice A es.length c)).run P w.drew = .ok olds.toArray w.drew := by
      have := (hR.src hI.drew ht).cells
      rw [hR.val, ← g2] at this
      exact this
    have hrun := run_append_grow_src (P := P) w t tx ty e ti z ht g1 g4 A es.length c olds hold vy ys.length news hS' (by omega) (by omega) (growslice_fits (by omega) (by rw [g3]; exact hbytes.2))
    rw [← hR.val] at hrun
    have hge := grownCap_ge w (es.length + ys.length) c e
    have hcm := grownCap_le_maxLen w (es.length + ys.length) c e (by simp only [maxLen]; omega)
    have hL : (olds ++ news).length = (es.length + ys.length) * i.sz := by rw [List.length_append, hR.len, hnl, Nat.add_mul]
    have hcsz : ((olds ++ news).toArray ++ Builtin.zeroCells z.cells (grownCap w (es.length + ys.length) c e - (es.length + ys.length))).size = grownCap w (es.length + ys.length) c e * i.sz := by
      rw [Array.size_append, List.size_toArray, hL, size_zeroCells, g6, ← Nat.add_mul]
      congr 1
      omega
    have htk : (((olds ++ news).toArray ++ Builtin.zeroCells z.cells (grownCap w (es.length + ys.length) c e - (es.length + ys.length))).toList.take ((es.length + ys.length) * i.sz)) = olds ++ news := by
      rw [Array.toList_append, List.toList_toArray, List.take_append_of_le_length (by omega), List.take_of_length_le (by omega)]
    obtain ⟨hle, hI'⟩ := hI.drew.alloc_row ((olds ++ news).toArray ++ Builtin.zeroCells z.cells (grownCap w (es.length + ys.length) c e - (es.length + ys.length))) e ((es.length + ys.length) * i.sz)
      (by rw [hcsz]; exact Nat.mul_le_mul_right _ hge) (by rw [htk]; exact fun v hv => (List.mem_append.1 hv).elim (h1o v) (hS.one v))
    refine ⟨_, _, _, hrun, hle, hI'.closed' k, ?_⟩
    have key := Rel.mkSl (b := w.heap.size) (o := 0) (t := .own σ.opn.length) (c := grownCap w (es.length + ys.length) c e) (by rw [hlen2]; exact hge) hcm hz (hrel.mono hle) (fun j u hu => by
      simp only [Ghost.addRow, World.size_drew, if_true, Nat.zero_add]
      rw [htk]
      exact hu) ⟨by simp [Ghost.addRow], .inr (by
      simp only [Ghost.addRow, if_true, World.size_drew, Nat.zero_add]
      rw [hcsz, hlen2])⟩
    rw [hlen2] at key
    exact key

theorem setCells_row (b : Nat) {T : TypeId} : ∀ (vs : List Value) (o : Nat) (w : World) (cs : Array Value), w.heap[b]? = some (.cells cs T (0, 0)) → o + vs.length ≤ cs.size →
    ∃ cs', (w.setCells b o vs).heap[b]? = some (.cells cs' T (0, 0)) ∧ cs'.size = cs.size ∧ cs'.toList = cs.toList.take o ++ vs ++ cs.toList.drop (o + vs.length)
  | [], o, _, cs, h, _ => ⟨cs, h, rfl, by simp⟩
  | v :: vs, o, w, cs, h, hl => by
    simp only [List.length_cons] at hl
    obtain ⟨cs', h1, h2, h3⟩ := setCells_row b vs (o + 1) (w.setCell ⟨b, o, none⟩ v) _ (heap_setCell_same w b o cs T v h) (by simp; omega)
    refine ⟨cs', h1, by rw [h2]; simp, ?_⟩
    rw [h3]
    have e1 : (cs.setIfInBounds o v).toList = cs.toList.set o v := by simp
    rw [e1]
    have hlt : o < cs.toList.length := by simp; omega
    rw [List.take_set, List.drop_set_of_lt (by omega), List.set_eq_take_append_cons_drop, List.take_take, Nat.min_eq_left (by omega)]
    rw [if_pos (by simp; omega)]
    simp only [List.length_cons, List.append_assoc, List.cons_append]
    rw [show o + 1 + vs.length = o + (vs.length + 1) by omega]
    congr 2
    rw [List.drop_of_length_le (by simp; omega)]
    simp
theorem Inv.kill {w0 : World} {G : Ghost} {w : World} {σ : St} (h : Inv w0 G w σ) (id : Nat) : Inv w0 G w ⟨σ.objs.set id [], σ.opn, σ.gl⟩ := by
  have key : ∀ (i : Nat) (c : List AV), (σ.objs.set id [])[i]? = some c → c ≠ [] → σ.objs[i]? = some c ∧ i ≠ id := by
    intro i c hc hn
    rw [List.getElem?_set] at hc
    split at hc
    · split at hc
      · cases hc; exact absurd rfl hn
      · cases hc
    · rename_i he; exact ⟨hc, Ne.symm he⟩
  refine ⟨h.below, h.fz, fun i c hc hn hs => h.loc i c (key i c hc hn).1 hn hs, fun i b o c hl hc hn => h.locfz i b o c hl (key i c hc hn).1 hn, h.loclt, fun i b hl => by simpa using h.locdom i b hl, fun i j b c d hi hj hc hd hn hn' => h.locinj i j b c d hi hj (key i c hc hn).1 (key j d hd hn').1 hn hn', fun t b top en ho ht => ?_, h.tokdom, h.tokinj, h.nt, h.lit, h.gl, h.sp_to (.refl G) (fun _ _ _ h => h) (fun id' a h1 _ => (key id' [a] h1 (by simp)).1)⟩
  obtain ⟨e1, e2, e3, e4⟩ := h.tok t b top en ho ht
  refine ⟨e1, e2, e3, fun i hl => ?_⟩
  rw [List.getElem?_set]
  split
  · rename_i he; subst he; rw [if_pos (h.locdom _ _ hl)]
  · exact e4 i hl
theorem Inv.addNone {w0 : World} {G : Ghost} {w : World} {σ : St} (h : Inv w0 G w σ) : Inv w0 G w ⟨σ.objs ++ [[]], σ.opn, σ.gl⟩ := by
  have key : ∀ (i : Nat) (c : List AV), (σ.objs ++ [[]])[i]? = some c → c ≠ [] → σ.objs[i]? = some c := by
    intro i c hc hn
    by_cases hi : i < σ.objs.length
    · rwa [List.getElem?_append_left hi] at hc
    · rw [List.getElem?_append_right (by omega)] at hc
      have := List.mem_iff_getElem?.2 ⟨_, hc⟩
      simp at this
      exact absurd this hn
  refine ⟨h.below, h.fz, fun i c hc hn hs => h.loc i c (key i c hc hn) hn hs, fun i b o c hl hc hn => h.locfz i b o c hl (key i c hc hn) hn, h.loclt, fun i b hl => by have := h.locdom i b hl; simp; omega, fun i j b c d hi hj hc hd hn hn' => h.locinj i j b c d hi hj (key i c hc hn) (key j d hd hn') hn hn', fun t b top en ho ht => ?_, h.tokdom, h.tokinj, h.nt, h.lit, h.gl, h.sp_to (.refl G) (fun _ _ _ h => h) (fun id' a h1 _ => key id' [a] h1 (by simp))⟩
  obtain ⟨e1, e2, e3, e4⟩ := h.tok t b top en ho ht
  exact ⟨e1, e2, e3, fun i hl => by rw [List.getElem?_append_left (h.locdom _ _ hl)]; exact e4 i hl⟩
theorem Inv.vec_in {w0 : World} {G : Ghost} {w : World} {σ : St} (h : Inv w0 G w σ) {id b : Nat} {cells nc : List AV} {news : List Value} (hc : σ.objs[id]? = some cells) (hl : G.loc id = some b) (hne : cells ≠ []) (hsp : spcl cells = false) (hN : RelL G news nc) (h1 : ∀ v ∈ news, v.oneCell' = true) (hfit : cells.length + news.length ≤ G.bsz id) :
    G.Le (G.addLoc σ.objs.length b (G.bsz id)) ∧ Inv w0 (G.addLoc σ.objs.length b (G.bsz id)) (w.setCells b cells.length news) ⟨σ.objs.set id [] ++ [cells ++ nc], σ.opn, σ.gl⟩ := by
  have hidlt : id < σ.objs.length := h.locdom id b hl
  obtain ⟨b', T, vs, k1, k2, k3, k4, k5, k6⟩ := h.loc id cells hc hne hsp
  rw [hl] at k1
  injection k1 with k1
  subst k1
  obtain ⟨cs', e6, e7, e8⟩ := setCells_row b news cells.length w vs k3 (by omega)
  have hnone : ∀ i b, G.loc i = some b → i ≠ σ.objs.length := fun i b hi he => by have := h.locdom i b hi; omega
  have hle : G.Le (G.addLoc σ.objs.length b (G.bsz id)) := ⟨fun _ _ _ h => h, fun i b hi => by simp [Ghost.addLoc, hnone i b hi, hi], fun _ _ h => h, Nat.le_refl _, fun _ h => h, fun i b hi => by simp [Ghost.addLoc, hnone i b hi]⟩
  have key : ∀ (i : Nat) (c : List AV), (σ.objs.set id [] ++ [cells ++ nc])[i]? = some c → c ≠ [] → (σ.objs[i]? = some c ∧ i ≠ id ∧ i ≠ σ.objs.length) ∨ (i = σ.objs.length ∧ c = cells ++ nc) := by
    intro i c hc' hn
    by_cases hi : i < σ.objs.length
    · rw [List.getElem?_append_left (by simpa using hi), List.getElem?_set] at hc'
      split at hc'
      · first
          | (cases hc'; exact absurd rfl hn)
          | (split at hc'
             · cases hc'; exact absurd rfl hn
             · cases hc')
      · rename_i he; exact .inl ⟨hc', Ne.symm he, by omega⟩
    · rw [List.getElem?_append_right (by simpa using hi)] at hc'
      simp only [List.length_set] at hc'
      have : i - σ.objs.length = 0 := by
        rcases Nat.eq_zero_or_pos (i - σ.objs.length) with h0 | h0
        · exact h0
        · rw [List.getElem?_eq_none (by simp; omega)] at hc'; cases hc'
      rw [this] at hc'
      simp at hc'
      exact .inr ⟨by omega, hc'.symm⟩
  have hloc : ∀ i x, (G.addLoc σ.objs.length b (G.bsz id)).loc i = some x → (i = σ.objs.length ∧ x = b) ∨ (i ≠ σ.objs.length ∧ G.loc i = some x) := by
    intro i x hx
    simp only [Ghost.addLoc] at hx
    split at hx
    · rename_i he; cases hx; exact .inl ⟨he, rfl⟩
    · rename_i he; exact .inr ⟨he, hx⟩
  have hfzb : ∀ o, G.fz b o = none := fun o => h.locfz id b o cells hl hc hne
  refine ⟨hle, ⟨setCells_below b k2 news _ w h.below, fun x o v hf => ?_, fun i c hc' hn hs => ?_, fun i x o c hl' hc' hn => ?_, fun i x hl' => ?_, fun i x hl' => ?_, fun i j x c d hi hj hc' hd hn hn' => ?_, fun t x top en ho ht => ?_, fun t x ht => h.tokdom t x ht, fun t t' x x' a1 a2 a3 a4 => h.tokinj t t' x x' a1 a2 a3 a4, h.nt, fun x hx => ?_, h.gl, h.sp_to hle (fun k o hn hko => by
    have hx : k ≠ b := fun he => by subst he; rw [k3] at hko; injection hko with hko; exact hn _ _ _ hko.symm
    exact (setCells_other b news _ w k hx).trans hko) (fun i a h1 h2 => by
    rcases key i [a] h1 (by simp) with ⟨a1, _, _⟩ | ⟨_, a2⟩
    · exact a1
    · have hx := rell_nsp (k4.rel.append hN)
      rw [← a2] at hx
      simp only [spcl] at hx
      rw [hx] at h2; cases h2)⟩⟩
  · have hxb : x ≠ b := fun he => by subst he; have := hfzb o; rw [show G.fz x o = some v from hf] at this; cases this
    refine ⟨?_, (h.fz x o v hf).2⟩
    rw [World.cell?_setCells_out b news _ w ⟨x, o, none⟩ (fun hx _ => absurd hx hxb)]
    exact (h.fz x o v hf).1
  · rcases key i c hc' hn with ⟨a1, a2, a3⟩ | ⟨rfl, rfl⟩
    · obtain ⟨b', T', vs', f1, f2, f3, f4, f5, f6⟩ := h.loc i c a1 hn hs
      have hb' : b' ≠ b := fun he => a2 (h.locinj i id b c cells (he ▸ f1) hl a1 hc hn hne)
      exact ⟨b', T', vs', hle.loc _ _ f1, f2, (setCells_other b news _ w b' hb').trans f3, f4.mono hle, f5, by rw [hle.bsz _ _ f1]; exact f6⟩
    · refine ⟨b, T, cs', by simp [Ghost.addLoc], k2, e6, ⟨?_, ?_⟩, fun v hv => ?_, by simp only [Ghost.addLoc, if_true]; rw [e7, k6]⟩
      · rw [List.length_append, ← hN.len]; omega
      · have e9 : cs'.toList.take (cells ++ nc).length = vs.toList.take cells.length ++ news := by
          have hcl : (vs.toList.take cells.length).length = cells.length := by have := k4.le; simp; omega
          have hl2 : (cells ++ nc).length = (vs.toList.take cells.length ++ news).length := by rw [List.length_append, List.length_append, hcl, hN.len]
          rw [e8, hl2, List.take_left' rfl]
        rw [e9]
        exact (k4.rel.mono hle).append (hN.mono hle)
      · rw [e8] at hv
        rcases List.mem_append.1 hv with hv | hv
        · rcases List.mem_append.1 hv with hv | hv
          · exact k5 v (List.mem_of_mem_take hv)
          · exact h1 v hv
        · exact k5 v (List.mem_of_mem_drop hv)
  · rcases key i c hc' hn with ⟨a1, a2, a3⟩ | ⟨rfl, rfl⟩
    · rcases hloc i x hl' with ⟨e, _⟩ | ⟨_, e⟩
      · exact absurd e a3
      · exact h.locfz i x o c e a1 hn
    · rcases hloc _ x hl' with ⟨_, rfl⟩ | ⟨e, _⟩
      · exact hfzb o
      · exact absurd rfl e
  · rw [setCells_size]
    rcases hloc i x hl' with ⟨_, rfl⟩ | ⟨_, e⟩
    · exact h.loclt id _ hl
    · exact h.loclt i x e
  · rcases hloc i x hl' with ⟨e, _⟩ | ⟨_, e⟩
    · simp; omega
    · have := h.locdom i x e; simp; omega
  · rcases key i c hc' hn with ⟨a1, a2, a3⟩ | ⟨a1, a2⟩ <;> rcases key j d hd hn' with ⟨b1, b2, b3⟩ | ⟨b1, b2⟩
    · rcases hloc i x hi with ⟨e, _⟩ | ⟨_, e⟩
      · exact absurd e a3
      rcases hloc j x hj with ⟨e', _⟩ | ⟨_, e'⟩
      · exact absurd e' b3
      exact h.locinj i j x c d e e' a1 b1 hn hn'
    · rcases hloc i x hi with ⟨e, _⟩ | ⟨_, e⟩
      · exact absurd e a3
      rcases hloc j x hj with ⟨_, e'⟩ | ⟨e', _⟩
      · subst e'; exact absurd (h.locinj i id x c cells e hl a1 hc hn hne) a2
      · exact absurd b1 e'
    · rcases hloc j x hj with ⟨e, _⟩ | ⟨_, e⟩
      · exact absurd e b3
      rcases hloc i x hi with ⟨_, e'⟩ | ⟨e', _⟩
      · subst e'; exact absurd (h.locinj j id x d cells e hl b1 hc hn' hne) b2
      · exact absurd a1 e'
    · omega
  · obtain ⟨f1, ⟨cs2, T2, f2, f3⟩, f4, f5⟩ := h.tok t x top en ho ht
    have hxb : x ≠ b := fun he => hne (Option.some.inj ((f5 id (he ▸ hl)).symm.trans hc)).symm
    refine ⟨f1, ⟨cs2, T2, (setCells_other b news _ w x hxb).trans f2, f3⟩, f4, fun i hi => ?_⟩
    rcases hloc i x hi with ⟨_, e⟩ | ⟨_, e⟩
    · exact absurd e hxb
    · rw [List.getElem?_append_left (by simpa using h.locdom i x e), List.getElem?_set]
      split
      · first | rfl | rw [if_pos hidlt]
      · exact f5 i e
  · obtain ⟨f1, f2, f3, f4⟩ := h.lit x hx
    refine ⟨f1, by rw [setCells_size]; exact f2, fun i hi => ?_, f4⟩
    rcases hloc i x hi with ⟨_, e⟩ | ⟨_, e⟩
    · exact f3 id (e ▸ hl)
    · exact f3 i e
theorem zeroCells_one {z : Array Value} (h1 : ∀ u ∈ z.toList, u.oneCell' = true) (n : Nat) : ∀ u ∈ (Builtin.zeroCells z n).toList, u.oneCell' = true := by
  intro u hu
  simp only [Builtin.zeroCells, Array.toList_map, List.mem_map] at hu
  obtain ⟨k, hk, rfl⟩ := hu
  have hk' : k < n * z.size := by simpa using hk
  have hpos : 0 < z.size := by
    rcases Nat.eq_zero_or_pos z.size with h0 | h0
    · rw [h0] at hk'; simp at hk'
    · exact h0
  have hlt : k % z.size < z.size := Nat.mod_lt _ hpos
  rw [getElem!_pos z _ hlt]
  exact h1 _ (Array.mem_toList_iff.2 (Array.getElem_mem hlt))
def partOf (Ty : TypeId → Option TI) (tx : TypeId) (sz id off n : Nat) (σ : St) : Option (Nat × List AV) :=
  match tdOf Ty tx, σ.row id with
  | .slice _, some cells => if off + n * sz ≤ cells.length then some (n, (cells.drop off).take (n * sz)) else none
  | _, _ => none
def srcC (Ty : TypeId → Option TI) (tx : TypeId) (sz : Nat) (σ : St) : AV → Option (Nat × List AV)
  | .msl id off n => partOf Ty tx sz id off n σ
  | .vec id z n => if z = sz then partOf Ty tx sz id 0 n σ else none
  | .vc id z off n _ => if z = sz then partOf Ty tx sz id off n σ else none
  | y => (srcOf Ty tx sz σ y).map fun ys => (ys.length, flat ys)
theorem partOf_sound {P : Program} {Ty : TypeId → Option TI} (hT : TyOk P Ty) {w0 : World} {G : Ghost} {w : World} {σ : St} (hI : Inv w0 G w σ) {tx : TypeId} {sz id off n b c : Nat} {m : Nat} {ys : List AV} (hl : G.loc id = some b) (h : partOf Ty tx sz id off n σ = some (m, ys)) :
    m = n ∧ ys.length = n * sz ∧ ∃ news, Src P sz tx (.slice (some ⟨b, off, none⟩) n c) n news w ∧ RelL G news ys := by
  unfold partOf at h
  split at h
  case h_2 => cases h
  rename_i e cells hd hc
  obtain ⟨hc, hsp⟩ := row_some hc
  split at h
  case isFalse => cases h
  rename_i hle
  simp at h
  obtain ⟨rfl, rfl⟩ := h
  refine ⟨rfl, by simp; omega, ?_⟩
  by_cases hnil : cells = []
  · subst hnil
    have h0 : n * sz = 0 := by simp at hle; omega
    exact ⟨[], Src.ofSlice w (tdOf_ok hT hd (by simp)) ⟨b, off, none⟩ n c [] (by simp [h0]) (fun j u hu => by simp at hu) (fun u hu => by cases hu), by simp; exact RelL.nil G⟩
  obtain ⟨b', T, vs, k1, k2, k3, k4, k5, _⟩ := hI.loc id cells hc hnil hsp
  rw [hl] at k1
  injection k1 with k1
  subst k1
  have hlen : cells.length ≤ vs.size := k4.le
  have hr : RelL G ((vs.toList.drop off).take (n * sz)) ((cells.drop off).take (n * sz)) := by
    have := (k4.rel.drop off).take (n * sz)
    rw [List.drop_take, List.take_take, Nat.min_eq_left (by omega)] at this
    exact this
  refine ⟨(vs.toList.drop off).take (n * sz), Src.ofSlice w (tdOf_ok hT hd (by simp)) ⟨b, off, none⟩ n c _ (by simp; omega) (fun j u hu => ?_) (fun u hu => k5 u (List.mem_of_mem_drop (List.mem_of_mem_take hu))), hr⟩
  rw [Addr.add_lit, cell_of_row _ _ _ vs T (0, 0) k3]
  rw [List.getElem?_take] at hu
  split at hu
  · rw [List.getElem?_drop] at hu
    simpa using hu
  · cases hu
theorem srcC_sound {P : Program} {Ty : TypeId → Option TI} (hT : TyOk P Ty) {w0 : World} {G : Ghost} {w : World} {σ : St} (hI : Inv w0 G w σ) {tx : TypeId} {sz : Nat} {y : AV} {vy : Value} (hy : Rel G vy y) {n : Nat} {ys : List AV} (h : srcC Ty tx sz σ y = some (n, ys)) :
    ys.length = n * sz ∧ ∃ news, Src P sz tx vy n news w ∧ RelL G news ys := by
  have gen : ((srcOf Ty tx sz σ y).map fun ys => (ys.length, flat ys)) = some (n, ys) → ys.length = n * sz ∧ ∃ news, Src P sz tx vy n news w ∧ RelL G news ys := by
    intro h
    rw [Option.map_eq_some_iff] at h
    obtain ⟨zs, h1, h2⟩ := h
    cases h2
    obtain ⟨news, k1, k2, k3⟩ := srcOf_sound hT hI hy h1
    exact ⟨flat_length k3, news, k1, k2⟩
  cases y with
  | msl id off m =>
    cases hy with
    | msl _ _ _ c b hc hl => obtain ⟨rfl, k1, k2⟩ := partOf_sound (c := c) hT hI hl h; exact ⟨k1, k2⟩
  | vec id z m =>
    simp only [srcC] at h
    split at h
    case isFalse => cases h
    cases hy with
    | vec _ _ _ c b h0 hc hm hl hs => obtain ⟨rfl, k1, k2⟩ := partOf_sound (c := c) hT hI hl h; exact ⟨k1, k2⟩
    | vec0 A _ _ =>
      unfold partOf at h
      split at h
      case h_2 => cases h
      rename_i e cells hd hc
      simp at h
      obtain ⟨rfl, rfl⟩ := h
      refine ⟨by simp, [], ?_, RelL.nil G⟩
      cases A with
      | none => exact Src.ofNil w (tdOf_ok hT hd (by simp)) 0
      | some a => exact Src.ofSlice w (tdOf_ok hT hd (by simp)) a 0 0 [] (by simp) (fun j u hu => by simp at hu) (fun u hu => by cases hu)
  | vc id z off m cap =>
    simp only [srcC] at h
    split at h
    case isFalse => cases h
    cases hy with
    | vc _ _ _ _ c b hc hm hl hs => obtain ⟨rfl, k1, k2⟩ := partOf_sound (c := cap) hT hI hl h; exact ⟨k1, k2⟩
  | _ => exact gen h
def aappendV (Ty : TypeId → Option TI) (t tx : TypeId) (x y : AV) (σ : St) : Option (AV × St) :=
  match tdOf Ty t, x with
  | .slice e, .vec id sz len => match Ty e, σ.row id with
    | some i, some cells => match srcC Ty tx i.sz σ y with
      | some (n, ys) => if i.sz = sz ∧ 0 < sz ∧ cells.length = len * sz ∧ 0 < i.bytes ∧ (len + n) * i.bytes ≤ 140737488355328 then
          some (.vec σ.objs.length sz (len + n), ⟨σ.objs.set id [] ++ [cells ++ ys], σ.opn, σ.gl⟩) else none
      | none => none
    | _, _ => none
  | _, _ => none
theorem aappendV_sound {P : Program} {Ty : TypeId → Option TI} (hT : TyOk P Ty) {w0 : World} {G : Ghost} {w : World} {σ : St} (hI : Inv w0 G w σ) (t tx ty : TypeId) {x y : AV} {vx vy : Value} (hx : Rel G vx x) (hy : Rel G vy y) {a : AV} {σ' : St}
    (h : aappendV Ty t tx x y σ = some (a, σ')) : ∃ v w' G', (Builtin.append_ #[t, tx] ty #[vx, vy]).run P w = .ok v w' ∧ G.Le G' ∧ Inv w0 G' w' σ' ∧ Rel G' v a := by
  unfold aappendV at h
  split at h
  case h_2 => cases h
  rename_i e id sz len hd
  split at h
  case h_2 => cases h
  rename_i i cells hi hc
  obtain ⟨hc, hsp⟩ := row_some hc
  split at h
  case h_2 => cases h
  rename_i n ys hs
  split at h
  case isFalse => cases h
  rename_i hcond
  obtain ⟨rfl, hsz0, hcl, hb0, hbytes⟩ := hcond
  simp at h
  obtain ⟨rfl, rfl⟩ := h
  obtain ⟨hd2, ti, z, g1, g2, g3, g4, g5, g6, g7, g8⟩ := hT e i hi
  have ht := tdOf_ok hT hd (by simp)
  obtain ⟨hyl, news, hS, hN⟩ := srcC_sound hT hI hy hs
  have hS' : Src P ti.size tx vy n news w := by rw [g2]; exact hS
  have hnl : news.length = n * i.sz := hS.newsLen
  have hidlt : id < σ.objs.length := (List.getElem?_eq_some_iff.1 hc).1
  have hmx : len + n ≤ 140737488355328 := by
    calc len + n = (len + n) * 1 := (Nat.mul_one _).symm
      _ ≤ (len + n) * i.bytes := Nat.mul_le_mul_left _ hb0
      _ ≤ _ := hbytes
  -- a new row
  have grow : ∀ (A : Option Addr) (c : Nat) (olds : List Value), vx = .slice A len c → c < len + n → len ≤ c → RelL G olds cells → (∀ v ∈ olds, v.oneCell' = true) → (Builtin.firstCells ti.size len (.slice A len c)).run P w.drew = .ok olds.toArray w.drew → 0 < len + n →
      ∃ v w' G', (Builtin.append_ #[t, tx] ty #[vx, vy]).run P w = .ok v w' ∧ G.Le G' ∧ Inv w0 G' w' ⟨σ.objs.set id [] ++ [cells ++ ys], σ.opn, σ.gl⟩ ∧ Rel G' v (.vec σ.objs.length i.sz (len + n)) := by
    intro A c olds hvx hfit hlc hR h1o hold hpos
    have hol : olds.length = len * i.sz := by rw [hR.len, hcl]
    have hrun := run_append_grow_src (P := P) w t tx ty e ti z ht g1 g4 A len c olds hold vy n news hS' (by omega) (by omega) (growslice_fits (by omega) (by rw [g3]; exact hbytes))
    rw [← hvx] at hrun
    have hge := grownCap_ge w (len + n) c e
    have hcm := grownCap_le_maxLen w (len + n) c e (by simp only [maxLen]; omega)
    have hL : (olds ++ news).length = (len + n) * i.sz := by rw [List.length_append, hol, hnl, Nat.add_mul]
    have hcsz : ((olds ++ news).toArray ++ Builtin.zeroCells z.cells (grownCap w (len + n) c e - (len + n))).size = grownCap w (len + n) c e * i.sz := by
      rw [Array.size_append, List.size_toArray, hL, size_zeroCells, g6, ← Nat.add_mul]
      congr 1
      omega
    have hz1 : ∀ u ∈ z.cells.toList, u.oneCell' = true := fun u hu => by
      rw [Array.all_eq_true_iff_forall_mem] at g8
      exact g8 u (Array.mem_toList_iff.1 hu)
    have hrel : RelL G (olds ++ news) (cells ++ ys) := hR.append hN
    have hcat : (cells ++ ys).length = (len + n) * i.sz := by rw [← hrel.len, hL]
    obtain ⟨hle, hI'⟩ := hI.drew.alloc_loc ((olds ++ news).toArray ++ Builtin.zeroCells z.cells (grownCap w (len + n) c e - (len + n))) e (cells ++ ys)
      ⟨by rw [hcat, hcsz]; exact Nat.mul_le_mul_right _ hge, by
        rw [hcat, Array.toList_append, List.toList_toArray, List.take_append_of_le_length (by omega), List.take_of_length_le (by omega)]
        exact hrel⟩ (fun v hv => by
        rw [Array.toList_append, List.toList_toArray] at hv
        rcases List.mem_append.1 hv with hv | hv
        · exact (List.mem_append.1 hv).elim (h1o v) (hS.one v)
        · exact zeroCells_one hz1 _ v hv)
    have hI2 := hI'.kill id
    rw [World.size_drew] at hle hI2
    refine ⟨_, _, _, hrun, hle, ?_, ?_⟩
    · rw [List.set_append_left _ _ hidlt] at hI2
      exact hI2
    · exact .vec _ _ _ _ w.heap.size hpos hge hcm (by simp [Ghost.addLoc]) (by simp only [Ghost.addLoc, if_true]; rw [hcsz]; exact Nat.le_refl _)
  cases hx with
  | vec0 A id sz =>
    have hnil : cells = [] := List.eq_nil_of_length_eq_zero (by rw [hcl]; simp)
    subst hnil
    by_cases h0 : n = 0
    · subst h0
      have hys : ys = [] := List.eq_nil_of_length_eq_zero (by rw [hyl]; simp)
      subst hys
      have hnn : news = [] := List.eq_nil_of_length_eq_zero (by rw [hnl]; simp)
      subst hnn
      have hrun := run_append_nothing (P := P) w t tx ty e ti ht g1 A 0 0 (Nat.le_refl _) vy hS'
      refine ⟨_, w, G, hrun, .refl G, ?_, .vec0 _ _ _⟩
      have := hI.addNone.kill id
      rw [List.set_append_left _ _ hidlt] at this
      exact this
    · exact grow A 0 [] rfl (by omega) (Nat.le_refl _) (RelL.nil G) (fun v hv => by cases hv) (by
        cases A with
        | none => exact (Src.ofNil (P := P) (size := ti.size) w.drew ht 0).cells
        | some a => exact (Src.ofSlice (P := P) (size := ti.size) w.drew ht a 0 0 [] (by simp) (fun j u hu => by simp at hu) (fun v hv => by cases hv)).cells) (by omega)
  | vec _ _ _ c b h0 hc' hm hl hbs =>
    have hne : cells ≠ [] := fun he => by
      subst he
      have : len * i.sz = 0 := hcl.symm
      rcases Nat.mul_eq_zero.1 this with h | h <;> omega
    obtain ⟨b', T, vs, k1, k2, k3, k4, k5, k6⟩ := hI.loc id cells hc hne hsp
    rw [hl] at k1
    injection k1 with k1
    subst k1
    by_cases hfit : len + n ≤ c
    · have hcap : cells.length + news.length ≤ G.bsz id := by
        rw [hcl, hnl, ← Nat.add_mul]
        exact Nat.le_trans (Nat.mul_le_mul_right _ hfit) hbs
      obtain ⟨hle, hI'⟩ := hI.vec_in hc hl hne hsp hN hS.one hcap
      by_cases h00 : n = 0
      · subst h00
        have hys : ys = [] := List.eq_nil_of_length_eq_zero (by rw [hyl]; simp)
        subst hys
        have hnn : news = [] := List.eq_nil_of_length_eq_zero (by rw [hnl]; simp)
        subst hnn
        have hrun := run_append_nothing (P := P) w t tx ty e ti ht g1 (some ⟨b, 0, none⟩) len c hc' vy hS'
        exact ⟨_, w, _, hrun, hle, hI', .vec _ _ _ _ b (by simpa using h0) (by simpa using hc') hm (by simp [Ghost.addLoc]) (by simpa [Ghost.addLoc] using hbs)⟩
      · have hrun := run_append_room_src (P := P) w t tx ty e ti ht g1 b 0 len c vy n news hS' hfit
          (fun j hj => by rw [cell_of_row _ _ _ vs T (0, 0) k3, Array.getElem?_eq_getElem (by rw [g2]; rw [hcl] at hcap; omega)]; rfl)
          (fun j hj => frozen_of_row _ _ _ vs T k3)
        rw [g2, Nat.zero_add, ← hcl] at hrun
        exact ⟨_, _, _, hrun, hle, hI', .vec _ _ _ _ b (by omega) hfit hm (by simp [Ghost.addLoc]) (by simpa [Ghost.addLoc] using hbs)⟩
    · refine grow _ c (vs.toList.take cells.length) rfl (by omega) hc' k4.rel (fun v hv => k5 v (List.mem_of_mem_take hv)) ?_ (by omega)
      have hsrc : Src P ti.size t (.slice (some ⟨b, 0, none⟩) len c) len (vs.toList.take cells.length) w.drew := by
        refine Src.ofSlice w.drew ht ⟨b, 0, none⟩ len c _ (by have := k4.le; rw [g2]; simp; omega) (fun j u hu => ?_) (fun v hv => k5 v (List.mem_of_mem_take hv))
        rw [Addr.add_lit, Nat.zero_add, World.cell?_drew, cell_of_row _ _ _ vs T (0, 0) k3]
        rw [List.getElem?_take] at hu
        split at hu
        · simpa using hu
        · cases hu
      exact hsrc.cells

def isAggTD : TD → Bool
  | .struct _ => true
  | .arr _ _ => true
  | _ => false
def acut (Ty : TypeId → Option TI) (T : TypeId) (cells : List AV) (off : Nat) : Option AV :=
  match Ty T with
  | some i => if isAggTD i.d then (if off + i.sz ≤ cells.length then some (.agg ((cells.drop off).take i.sz)) else none) else cells[off]?
  | none => none
def acells (σ : St) : AV → Option (List AV × Nat)
  | .ref id off => match σ.row id with | some c => some (c, off) | none => none
  | .fptr x off => some (x, off)
  | _ => none

theorem mkAgg {G : Ghost} {vs : Array Value} {aas : List AV} (h : RelL G vs.toList aas) : Rel G (.agg vs) (.agg aas) :=
  .agg vs aas (by simpa using h.len) (fun i v a h1 h2 => h.at_ i v a (by simpa using h1) h2)
section
variable {P : Program} {Ty : TypeId → Option TI} {w0 : World} {G : Ghost} {w : World} {σ : St}

theorem isAgg_run (hT : TyOk P Ty) {T : TypeId} {i : TI} (h : Ty T = some i) (w : World) : (isAgg T).run P w = .ok (isAggTD i.d) w := by
  have := (hT T i h).d
  cases hd : i.d <;> rw [hd] at this <;> simp only [TdOk] at this
  case struct fs => obtain ⟨f, h1, _⟩ := this; simp [isAgg, run_underlying h1, isAggTD]
  case iface => obtain ⟨f, h1⟩ := this; simp [isAgg, run_underlying h1, isAggTD]
  case func => obtain ⟨p, r, v, h1⟩ := this; simp [isAgg, run_underlying h1, isAggTD]
  all_goals simp [isAgg, run_underlying this, isAggTD]
theorem sizeOf_run (hT : TyOk P Ty) {T : TypeId} {i : TI} (h : Ty T = some i) (w : World) : (Go.sizeOf T).run P w = .ok i.sz w := by
  obtain ⟨ti, z, h1, h2, _⟩ := (hT T i h).info
  simp [Go.sizeOf, typeInfo, h1, h2]
theorem zero_run (hT : TyOk P Ty) {T : TypeId} {i : TI} (h : Ty T = some i) (w : World) : ∃ z, (zeroValue T).run P w = .ok z w ∧ (∀ G, RelL G z.cells.toList i.zero.cells) ∧ (∀ v ∈ z.cells.toList, v.oneCell' = true) ∧ z.cells.size = i.sz := by
  obtain ⟨ti, z, h1, h2, h3, h4, h5, h6, h7, h8⟩ := (hT T i h).info
  refine ⟨z, by simp [zeroValue, typeInfo, h1, h4], h5, fun v hv => ?_, h6⟩
  rw [Array.all_eq_true_iff_forall_mem] at h8
  exact h8 v (Array.mem_toList_iff.1 hv)

theorem addr_cells (hI : Inv w0 G w σ) {x : AV} {vx : Value} (hx : Rel G vx x) {cells : List AV} {off : Nat} (h : acells σ x = some (cells, off)) :
    ∃ b base news, vx = .pointer (some ⟨b, base + off, none⟩) ∧ RelL G news cells ∧ ∀ (j : Nat) (u : Value), news[j]? = some u → w.cell? ⟨b, base + j, none⟩ = some u ∧ u.oneCell' = true := by
  unfold acells at h
  split at h
  · split at h
    case h_2 => cases h
    rename_i c hc
    obtain ⟨hc, hsp⟩ := row_some hc
    simp at h
    obtain ⟨rfl, rfl⟩ := h
    cases hx
    rename_i b hl
    by_cases hnil : c = []
    · subst hnil
      exact ⟨b, 0, [], by rw [Nat.zero_add], RelL.nil G, fun j u hu => by simp at hu⟩
    obtain ⟨b', T, vs, k1, k2, k3, k4, k5⟩ := hI.loc _ _ hc hnil hsp
    rw [hl] at k1
    injection k1 with k1
    subst k1
    refine ⟨b, 0, vs.toList.take c.length, by rw [Nat.zero_add], k4.rel, fun j u hu => ⟨?_, k5.1 u (List.mem_of_mem_take (List.mem_iff_getElem?.2 ⟨j, hu⟩))⟩⟩
    rw [Nat.zero_add, cell_of_row _ _ _ vs T (0, 0) k3]
    rw [List.getElem?_take] at hu
    split at hu
    · simpa using hu
    · cases hu
  · simp at h
    obtain ⟨rfl, rfl⟩ := h
    cases hx
    rename_i x off b o val hf hr
    refine ⟨b, o, (List.range x.length).map val, rfl, ⟨by simp, fun j u a h1 h2 => ?_⟩, fun j u hu => ?_⟩
    · rw [List.getElem?_map] at h1
      simp only [Option.map_eq_some_iff] at h1
      obtain ⟨j', hj, rfl⟩ := h1
      obtain ⟨_, he⟩ := List.getElem?_eq_some_iff.1 hj
      simp at he
      subst he
      exact hr j a h2
    · rw [List.getElem?_map] at hu
      simp only [Option.map_eq_some_iff] at hu
      obtain ⟨j', hj, rfl⟩ := hu
      obtain ⟨hlt, he⟩ := List.getElem?_eq_some_iff.1 hj
      simp at he hlt
      subst he
      exact hI.fz b (o + j) _ (hf j _ (List.getElem?_eq_getElem hlt))
  · cases h

theorem acut_load (hT : TyOk P Ty) {T : TypeId} {cells : List AV} {off : Nat} {a : AV} (h : acut Ty T cells off = some a) {news : List Value} (hr : RelL G news cells) {b base : Nat}
    (hc : ∀ (j : Nat) (u : Value), news[j]? = some u → w.cell? ⟨b, base + j, none⟩ = some u ∧ u.oneCell' = true) : ∃ v, (loadVar T ⟨b, base + off, none⟩).run P w = .ok v w ∧ Rel G v a := by
  unfold acut at h
  split at h
  case h_2 => cases h
  rename_i i hi
  have hA := isAgg_run (P := P) hT hi w
  have hS := sizeOf_run (P := P) hT hi w
  split at h
  · rename_i hag
    split at h
    case isFalse => cases h
    rename_i hle
    simp at h
    subst h
    have hnl := hr.len
    have hload := run_loadCells_list (P := P) (w := w) ⟨b, base + off, none⟩ ((news.drop off).take i.sz) (fun j v hv => by
      rw [Addr.add_lit, Nat.add_assoc]
      rw [List.getElem?_take] at hv
      split at hv
      · rw [List.getElem?_drop] at hv; exact (hc _ _ hv).1
      · cases hv)
    rw [show ((news.drop off).take i.sz).length = i.sz by simp; omega] at hload
    refine ⟨.agg ((news.drop off).take i.sz).toArray, ?_, ?_⟩
    · simp [loadVar, hA, hag, hS, hload]
    · exact mkAgg (by simpa using (hr.drop off).take i.sz)
  · rename_i hag
    obtain ⟨u, hu, hru⟩ := hr.get h
    refine ⟨u, ?_, hru⟩
    have hag' : isAggTD i.d = false := by simpa using hag
    simp [loadVar, hA, hag', Go.load, Sem.run, (hc off u hu).1]

def aload (Ty : TypeId → Option TI) (T : TypeId) (x : AV) (σ : St) : Option AV :=
  match acells σ x with
  | some (cells, off) => acut Ty T cells off
  | none => none
theorem aload_sound (hT : TyOk P Ty) (hI : Inv w0 G w σ) {T : TypeId} {x : AV} {vx : Value} (hx : Rel G vx x) {a : AV} (h : aload Ty T x σ = some a) : ∃ v, (Instr.loadAt T vx).run P w = .ok v w ∧ Rel G v a := by
  unfold aload at h
  split at h
  case h_2 => cases h
  rename_i cells off hc
  obtain ⟨b, base, news, rfl, hr, hcell⟩ := addr_cells hI hx hc
  obtain ⟨v, h1, h2⟩ := acut_load hT h hr hcell
  exact ⟨v, by simpa [Instr.loadAt, Instr.sureAddr] using h1, h2⟩

theorem acut_part (hT : TyOk P Ty) {T : TypeId} {cells : List AV} {off : Nat} {a : AV} (h : acut Ty T cells off = some a) {cs : Array Value} (hr : RelL G cs.toList cells) : ∃ v, (part T cs off).run P w = .ok v w ∧ Rel G v a := by
  unfold acut at h
  split at h
  case h_2 => cases h
  rename_i i hi
  have hA := isAgg_run (P := P) hT hi w
  have hS := sizeOf_run (P := P) hT hi w
  split at h
  · rename_i hag
    split at h
    case isFalse => cases h
    rename_i hle
    simp at h
    subst h
    refine ⟨.agg (cs.extract off (off + i.sz)), ?_, ?_⟩
    · simp [part, hA, hag, hS]
    · have he : (cs.extract off (off + i.sz)).toList = (cs.toList.drop off).take i.sz := by simp [List.take_drop]
      exact mkAgg (by rw [he]; exact (hr.drop off).take i.sz)
  · rename_i hag
    obtain ⟨u, hu, hru⟩ := hr.get h
    have hag' : isAggTD i.d = false := by simpa using hag
    have hu' : cs[off]? = some u := by simpa using hu
    exact ⟨u, by simp [part, hA, hag', hu'], hru⟩

def repl (cells : List AV) (off : Nat) (new : List AV) : List AV := cells.take off ++ new ++ cells.drop (off + new.length)
def flatAV : AV → Bool
  | .junk => false
  | .agg _ => false
  | .tup _ => false
  | .itc _ _ => false
  | .mpc _ _ => false
  | .lpc _ _ _ _ _ => false
  | .dfc _ => false
  | _ => true
theorem flat_nsp : ∀ {cells : List AV} (h : cells.all flatAV = true), spcl cells = false
  | [], _ => rfl
  | [a], h => by cases a <;> first | rfl | (simp [flatAV] at h)
  | _ :: _ :: _, _ => rfl
theorem rel_flat {G : Ghost} {v : Value} {a : AV} (h : Rel G v a) (hf : flatAV a = true) : v.oneCell' = true := by
  cases h <;> first | rfl | (simp [flatAV] at hf)
theorem cells_flat {G : Ghost} {v : Value} {a : AV} (h : Rel G v a) (hf : a.cells.all flatAV = true) : RelL G v.cells.toList a.cells ∧ ∀ u ∈ v.cells.toList, u.oneCell' = true := by
  have hj : a ≠ .junk := by rintro rfl; simp [AV.cells, flatAV] at hf
  have hr := rel_cells h hj
  refine ⟨hr, fun u hu => ?_⟩
  obtain ⟨j, hj⟩ := List.mem_iff_getElem?.1 hu
  have hlt : j < a.cells.length := by rw [← hr.len]; exact (List.getElem?_eq_some_iff.1 hj).1
  rw [List.all_eq_true] at hf
  exact rel_flat (hr.at_ j u _ hj (List.getElem?_eq_getElem hlt)) (hf _ (List.getElem_mem hlt))
def astore (Ty : TypeId → Option TI) (T : TypeId) (x y : AV) (σ : St) : Option St :=
  match x, Ty T with
  | .ref id off, some i => match σ.row id with
    | some cells => if y.cells.all flatAV = true ∧ y.cells.length = i.sz ∧ off + i.sz ≤ cells.length then some ⟨σ.objs.set id (repl cells off y.cells), σ.opn, σ.gl⟩ else none
    | none => none
  | _, _ => none

theorem setRow_size (w : World) (g : Nat) (cs : Array Value) : (w.setRow g cs).heap.size = w.heap.size := by simp [World.setRow]
theorem setRow_below {B : Nat} {a w : World} (h : Below B a w) {b : Nat} (hb : B ≤ b) (cs : Array Value) : Below B a (w.setRow b cs) :=
  h.trans ⟨rfl, rfl, rfl, by rw [setRow_size]; exact Nat.le_refl _, fun k hk => setRow_other w b k cs (by omega)⟩
theorem Inv.set_loc (h : Inv w0 G w σ) {id b : Nat} {T : TypeId} {vs new : Array Value} {cells old : List AV} (hold : σ.objs[id]? = some old) (hon : old ≠ []) (hl : G.loc id = some b) (hb : w0.heap.size ≤ b) (hg : w.heap[b]? = some (.cells vs T (0, 0))) (hr : RelP G new cells) (h1 : ∀ v ∈ new.toList, v.oneCell' = true) (hns : new.size = G.bsz id) :
    Inv w0 G (w.setRow b new) ⟨σ.objs.set id cells, σ.opn, σ.gl⟩ := by
  have hfar : ∀ x o v, G.fz x o = some v → x ≠ b := fun x o v hf he => by rw [he, h.locfz id b o old hl hold hon] at hf; cases hf
  refine ⟨setRow_below h.below hb new, fun x o v hf => ⟨?_, (h.fz x o v hf).2⟩, fun id' c hc hn hs => ?_, fun i x o c hi hc hn => ?_, fun i x hi => by rw [setRow_size]; exact h.loclt i x hi, fun i x hi => by simpa using h.locdom i x hi, fun i j x c d hi hj hc hd hn hn' => ?_, fun t x top en ho ht => ?_, h.tokdom, h.tokinj, h.nt, fun b hb => by
    obtain ⟨k1, k2, k3, k4⟩ := h.lit b hb
    exact ⟨k1, by rw [setRow_size]; exact k2, k3, k4⟩, h.gl, h.sp_to (.refl G) (fun k o hn hko => by
      have hx : k ≠ b := fun he => by subst he; rw [hg] at hko; injection hko with hko; exact hn _ _ _ hko.symm
      exact (setRow_other w b k new hx).trans hko) (fun i a h1 h2 => by
      simp only at h1
      rw [List.getElem?_set] at h1
      split at h1
      · split at h1
        · have e := Option.some.inj h1
          have hx := hr.nsp
          rw [e] at hx
          simp only [spcl] at hx
          rw [hx] at h2; cases h2
        · cases h1
      · exact h1)⟩
  · rw [cell_setRow_other w b new ⟨x, o, none⟩ (hfar x o v hf)]
    exact (h.fz x o v hf).1
  · rw [List.getElem?_set] at hc
    split at hc
    · rename_i he
      subst he
      split at hc
      · simp at hc
        subst hc
        exact ⟨b, T, new, hl, hb, setRow_heap w b vs new T (0, 0) hg, hr, h1, hns⟩
      · cases hc
    · rename_i he
      obtain ⟨b', T', vs', k1, k2, k3, k4, k5, k6⟩ := h.loc id' c hc hn hs
      have hne : b' ≠ b := fun hb' => he (h.locinj id id' b old c hl (hb' ▸ k1) hold hc hon hn)
      exact ⟨b', T', vs', k1, k2, (setRow_other w b b' new hne).trans k3, k4, k5, k6⟩
  · rw [List.getElem?_set] at hc
    split at hc
    · rename_i he; subst he; exact h.locfz _ x o old hi hold hon
    · exact h.locfz i x o c hi hc hn
  · have key : ∀ (i : Nat) (c : List AV), (σ.objs.set id cells)[i]? = some c → c ≠ [] → ∃ c', σ.objs[i]? = some c' ∧ c' ≠ [] := by
      intro i c hc hn
      rw [List.getElem?_set] at hc
      split at hc
      · rename_i he; subst he; exact ⟨old, hold, hon⟩
      · exact ⟨c, hc, hn⟩
    obtain ⟨c', a1, a2⟩ := key i c hc hn
    obtain ⟨d', b1, b2⟩ := key j d hd hn'
    exact h.locinj i j x c' d' hi hj a1 b1 a2 b2
  · obtain ⟨e1, ⟨cs, T', e2, e3⟩, e4, e5⟩ := h.tok t x top en ho ht
    have hne : x ≠ b := fun he => hon (Option.some.inj ((e5 id (he ▸ hl)).symm.trans hold)).symm
    refine ⟨e1, ⟨cs, T', (setRow_other w b x new hne).trans e2, e3⟩, e4, fun i hi => ?_⟩
    rw [List.getElem?_set_ne (fun he => by subst he; rw [hl] at hi; exact hne (Option.some.inj hi).symm)]
    exact e5 i hi
theorem repl_rel {vs new : List Value} {cells nc : List AV} (h : RelL G vs cells) (k : RelL G new nc) (off : Nat) : RelL G (vs.take off ++ new ++ vs.drop (off + new.length)) (repl cells off nc) := by
  unfold repl
  rw [← k.len]
  exact ((h.take off).append k).append (h.drop _)
theorem astore_sound (hT : TyOk P Ty) (hI : Inv w0 G w σ) {T : TypeId} {x y : AV} {vx vy : Value} (hx : Rel G vx x) (hy : Rel G vy y) {σ' : St} (h : astore Ty T x y σ = some σ') :
    ∃ w', (Instr.storeAt T vx vy).run P w = .ok () w' ∧ Inv w0 G w' σ' := by
  unfold astore at h
  split at h
  case h_2 => cases h
  rename_i id off i hi
  split at h
  case h_2 => cases h
  rename_i cells hc
  obtain ⟨hc, hsp⟩ := row_some hc
  split at h
  case isFalse => cases h
  rename_i hcond
  obtain ⟨hj, hlen, hle⟩ := hcond
  simp at h
  subst h
  cases hx
  rename_i b hl
  by_cases hne' : cells = []
  · subst hne'
    obtain ⟨hyc, h1⟩ := cells_flat hy hj
    have h0 : i.sz = 0 := by simp at hle; omega
    have hS := sizeOf_run (P := P) hT hi w
    have hsz : vy.cells.size = 0 := by have := hyc.len; rw [hlen, h0] at this; simpa using this
    have hnil : vy.cells.toList = [] := by apply List.eq_nil_of_length_eq_zero; simpa using hsz
    have hyn : y.cells = [] := List.eq_nil_of_length_eq_zero (by rw [hlen, h0])
    refine ⟨w, ?_, ?_⟩
    · simp only [Instr.storeAt, Instr.sureAddr, storeVar]
      simp only [Sem.run_bind, Sem.run_pure, Result.andThen, hS]
      rw [if_neg (by simp [hsz, h0]), hnil]
      rfl
    · have : (⟨σ.objs.set id (repl [] off y.cells), σ.opn, σ.gl⟩ : St) = σ := by
        have e : σ.objs.set id (repl [] off y.cells) = σ.objs := by
          rw [hyn]
          obtain ⟨hlt, hg⟩ := List.getElem?_eq_some_iff.1 hc
          have : repl [] off [] = σ.objs[id] := by rw [hg]; simp [repl]
          rw [this, List.set_getElem_self]
        rw [e]
      rw [this]; exact hI
  obtain ⟨b', T', vs, k1, k2, k3, k4, k5, k6⟩ := hI.loc _ _ hc hne' hsp
  rw [hl] at k1
  injection k1 with k1
  subst k1
  obtain ⟨hyc, h1⟩ := cells_flat hy hj
  have hvl : cells.length ≤ vs.size := k4.le
  have hyl : vy.cells.toList.length = i.sz := by rw [hyc.len, hlen]
  have hS := sizeOf_run (P := P) hT hi w
  have hst := run_storeCells_at P b off T' vy.cells.toList 0 vs w k3 (by omega) h1
  simp only [Nat.add_zero] at hst
  refine ⟨_, ?_, hI.set_loc hc hne' hl k2 k3 (new := (vs.toList.take off ++ vy.cells.toList ++ vs.toList.drop (off + vy.cells.toList.length)).toArray) ?_ ?_ ?_⟩
  · have hsz : vy.cells.size = i.sz := by simpa using hyl
    simp only [Instr.storeAt, Instr.sureAddr, storeVar]
    simp only [Sem.run_bind, Sem.run_pure, Result.andThen, hS]
    rw [if_neg (by simp [hsz])]
    exact hst
  · have hr := repl_rel k4.rel hyc off
    have hcl : (repl cells off y.cells).length = cells.length := by simp [repl]; omega
    have e1 : (vs.toList.take cells.length).take off = vs.toList.take off := by rw [List.take_take, Nat.min_eq_left (by omega)]
    refine ⟨by rw [hcl]; simp; omega, ?_⟩
    rw [hcl]
    have e2 : (vs.toList.take off ++ vy.cells.toList ++ vs.toList.drop (off + vy.cells.toList.length)).take cells.length = (vs.toList.take cells.length).take off ++ vy.cells.toList ++ (vs.toList.take cells.length).drop (off + vy.cells.toList.length) := by
      rw [e1, List.take_append, List.take_append, List.drop_take]
      have f1 : (vs.toList.take off).length = off := by simp; omega
      rw [List.take_of_length_le (l := vs.toList.take off) (by rw [f1]; omega), List.take_of_length_le (l := vy.cells.toList) (by rw [f1]; omega)]
      congr 2
      simp only [List.length_append, f1]
    rw [← e2] at hr
    simpa using hr
  · intro v hv
    simp only [List.toList_toArray, List.mem_append] at hv
    rcases hv with (hv | hv) | hv
    · exact k5 v (List.mem_of_mem_take hv)
    · exact h1 v hv
    · exact k5 v (List.mem_of_mem_drop hv)
  · rw [← k6]
    have : vy.cells.size = vy.cells.toList.length := by simp
    simp only [List.size_toArray, List.length_append, List.length_take, List.length_drop, Array.length_toList] at hyl ⊢
    omega
end
section
variable {P : Program} {Ty : TypeId → Option TI} {w0 : World} {G : Ghost} {w : World} {σ : St}

def szOf (Ty : TypeId → Option TI) (T : TypeId) : Nat := match Ty T with | some i => i.sz | none => 0
def amove (x : AV) (n : Nat) : Option AV :=
  match x with
  | .ref id off => some (.ref id (off + n))
  | .fptr x off => some (.fptr x (off + n))
  | _ => none
theorem amove_sound {x : AV} {vx : Value} (hx : Rel G vx x) {n : Nat} {a : AV} (h : amove x n = some a) : ∃ ad, vx = .pointer (some ad) ∧ Rel G (.pointer (some (ad.add n))) a := by
  unfold amove at h
  split at h
  · simp at h; subst h
    cases hx
    rename_i b hl
    exact ⟨_, rfl, by rw [Addr.add_lit]; exact .ref _ _ b hl⟩
  · simp at h; subst h
    cases hx
    rename_i x off b o val hf hr
    exact ⟨_, rfl, by rw [Addr.add_lit, Nat.add_assoc]; exact .fptr b o (off + n) x val hf hr⟩
  · cases h

def afieldAddr (Ty : TypeId → Option TI) (S : TypeId) (x : AV) (f : Nat) : Option AV :=
  match tdOf Ty S with
  | .struct fs => match fs[f]? with
    | some (o, t) => if szOf Ty t ≠ 0 then amove x o else none
    | none => none
  | _ => none
theorem field_of {fields : Array Field} {fs : List (Nat × TypeId)} (h : fields.toList.map (fun f => (f.offset, f.type)) = fs) {f o : Nat} {t : TypeId} (hf : fs[f]? = some (o, t)) : ∃ fd, fields[f]? = some fd ∧ fd.offset = o ∧ fd.type = t := by
  subst h
  rw [List.getElem?_map] at hf
  simp only [Option.map_eq_some_iff] at hf
  obtain ⟨fd, h1, h2⟩ := hf
  injection h2 with h2 h3
  exact ⟨fd, by simpa using h1, h2, h3⟩
theorem szOf_run (hT : TyOk P Ty) {t : TypeId} (h : szOf Ty t ≠ 0) (w : World) : (Go.sizeOf t).run P w = .ok (szOf Ty t) w := by
  unfold szOf at h ⊢
  split at h
  · rename_i i hi
    exact sizeOf_run hT hi w
  · exact absurd rfl h
theorem afieldAddr_sound (hT : TyOk P Ty) {S : TypeId} {x : AV} {vx : Value} (hx : Rel G vx x) {f : Nat} {a : AV} (h : afieldAddr Ty S x f = some a) : ∃ v, (Instr.fieldAt S vx f).run P w = .ok v w ∧ Rel G v a := by
  unfold afieldAddr at h
  split at h
  case h_2 => cases h
  rename_i fs hd
  split at h
  case h_2 => cases h
  rename_i o t hf
  split at h
  case isFalse => cases h
  rename_i hs
  obtain ⟨fields, hu, hfs⟩ := tdOf_ok hT hd (by simp)
  obtain ⟨fd, h1, rfl, rfl⟩ := field_of hfs hf
  obtain ⟨ad, rfl, hr⟩ := amove_sound hx h
  refine ⟨_, ?_, hr⟩
  simp [Instr.fieldAt, run_underlying hu, h1, Instr.sureAddr, fieldPlace, szOf_run (P := P) hT hs w, hs]
def afield (Ty : TypeId → Option TI) (S : TypeId) (x : AV) (f : Nat) : Option AV :=
  match tdOf Ty S, x with
  | .struct fs, .agg cs => match fs[f]? with
    | some (o, t) => acut Ty t cs o
    | none => none
  | _, _ => none
theorem afield_sound (hT : TyOk P Ty) {S : TypeId} {x : AV} {vx : Value} (hx : Rel G vx x) {f : Nat} {a : AV} (h : afield Ty S x f = some a) : ∃ v, (Instr.field S vx f).run P w = .ok v w ∧ Rel G v a := by
  unfold afield at h
  split at h
  case h_2 => cases h
  rename_i fs cs hd
  split at h
  case h_2 => cases h
  rename_i o t hf
  obtain ⟨fields, hu, hfs⟩ := tdOf_ok hT hd (by simp)
  obtain ⟨fd, h1, rfl, rfl⟩ := field_of hfs hf
  cases hx
  rename_i vs hl hr
  obtain ⟨v, h2, h3⟩ := acut_part (P := P) (w := w) hT h (cs := vs) ⟨by simpa using hl, fun i v a e1 e2 => hr i v a (by simpa using e1) e2⟩
  exact ⟨v, by simp [Instr.field, run_underlying hu, h1, asAgg, h2], h3⟩

def aindexAddr (Ty : TypeId → Option TI) (T : TypeId) (x ix : AV) : Option AV :=
  match ix, tdOf Ty T, x with
  | .int _ i, .slice e, .sl _ sz es => if 0 ≤ i ∧ sz = szOf Ty e ∧ sz ≠ 0 then (match es[i.toNat]? with | some y => some (.fptr y.cells 0) | none => none) else none
  | .int _ i, .slice e, .msl id off len => if 0 ≤ i ∧ i < len ∧ szOf Ty e ≠ 0 then some (.ref id (off + i.toNat * szOf Ty e)) else none
  | .int _ i, .arr n e, x => if 0 ≤ i ∧ i < n ∧ szOf Ty e ≠ 0 then amove x (i.toNat * szOf Ty e) else none
  | _, _, _ => none
theorem aindexAddr_sound (hT : TyOk P Ty) {T : TypeId} {x ix : AV} {vx vi : Value} (hx : Rel G vx x) (hi : Rel G vi ix) {a : AV} (h : aindexAddr Ty T x ix = some a) : ∃ v, (Instr.indexAt T vx vi).run P w = .ok v w ∧ Rel G v a := by
  unfold aindexAddr at h
  split at h
  · rename_i k i e t sz es hd
    split at h
    case isFalse => cases h
    rename_i hc
    obtain ⟨h0, rfl, hs⟩ := hc
    split at h
    case h_2 => cases h
    rename_i y hy
    simp at h
    subst h
    cases hi
    have hlt := (List.getElem?_eq_some_iff.1 hy).1
    have hu := tdOf_ok hT hd (by simp)
    cases hx with
    | sl0 A c t sz hm ht => simp at hlt
    | sl b o c t sz es val hc hm hz hf hr ht =>
      refine ⟨.pointer (some ⟨b, o + i.toNat * szOf Ty e, none⟩), ?_, ?_⟩
      · have hi' : i < (es.length : Int) := by omega
        simp only [Instr.indexAt, asIntOf]
        simp [run_underlying hu, h0, hi', szOf_run (P := P) hT hs w, Addr.add_lit]
      · have := Rel.fptr (G := G) b (o + i.toNat * szOf Ty e) 0 y.cells (fun j => val i.toNat j) (fun j a ha => hf _ y j a hy ha) (fun j a ha => hr _ y j a hy ha)
        simpa using this
  · rename_i k i e id off len hd
    split at h
    case isFalse => cases h
    rename_i hc
    obtain ⟨h0, h1, hs⟩ := hc
    simp at h
    subst h
    cases hi
    have hu := tdOf_ok hT hd (by simp)
    cases hx
    rename_i c b hl hlec
    refine ⟨.pointer (some ⟨b, off + i.toNat * szOf Ty e, none⟩), ?_, .ref _ _ b hl⟩
    simp only [Instr.indexAt, asIntOf]
    simp [run_underlying hu, h0, h1, szOf_run (P := P) hT hs w, Addr.add_lit]
  · rename_i n e hd
    split at h
    case isFalse => cases h
    rename_i hc
    obtain ⟨h0, h1, hs⟩ := hc
    cases hi
    have hu := tdOf_ok hT hd (by simp)
    obtain ⟨ad, rfl, hr⟩ := amove_sound hx h
    refine ⟨_, ?_, hr⟩
    simp only [Instr.indexAt, asIntOf]
    simp [run_underlying hu, h0, h1, szOf_run (P := P) hT hs w, Instr.sureAddr]
  · cases h

def aindex (Ty : TypeId → Option TI) (T : TypeId) (x ix : AV) : Option AV :=
  match ix, tdOf Ty T, x with
  | .int _ i, .arr n e, .agg cs => if 0 ≤ i ∧ i < n ∧ szOf Ty e ≠ 0 then acut Ty e cs (i.toNat * szOf Ty e) else none
  | .int _ i, .str, .str s => if 0 ≤ i then (match s.data.toList[i.toNat]? with | some b => some (.int .u8 b.toNat) | none => none) else none
  | _, _, _ => none
theorem aindex_sound (hT : TyOk P Ty) {T : TypeId} {x ix : AV} {vx vi : Value} (hx : Rel G vx x) (hi : Rel G vi ix) {a : AV} (h : aindex Ty T x ix = some a) : ∃ v, (Instr.index T vx vi).run P w = .ok v w ∧ Rel G v a := by
  unfold aindex at h
  split at h
  · rename_i k i n e cs hd
    split at h
    case isFalse => cases h
    rename_i hc
    obtain ⟨h0, h1, hs⟩ := hc
    cases hi; cases hx
    rename_i vs hl hr
    have hu := tdOf_ok hT hd (by simp)
    obtain ⟨v, h2, h3⟩ := acut_part (P := P) (w := w) hT h (cs := vs) ⟨by simpa using hl, fun i v a e1 e2 => hr i v a (by simpa using e1) e2⟩
    refine ⟨v, ?_, h3⟩
    simp only [Instr.index, asIntOf]
    simp [run_underlying hu, h0, h1, szOf_run (P := P) hT hs w, h2]
  · rename_i k i s hd
    split at h
    case isFalse => cases h
    rename_i h0
    split at h
    case h_2 => cases h
    rename_i b hb
    simp at h
    subst h
    cases hi; cases hx
    have hu := tdOf_ok hT hd (by simp)
    have hb' : s[i.toNat]? = some b := by
      obtain ⟨hlt, he⟩ := List.getElem?_eq_some_iff.1 hb
      have hlt' : i.toNat < s.size := by simpa using hlt
      rw [getElem?_pos s i.toNat hlt', ← he]
      rfl
    refine ⟨_, ?_, .int _ _⟩
    simp only [Instr.index, asIntOf]
    simp [run_underlying hu, h0, hb']
  · cases h
end
section
variable {P : Program} {Ty : TypeId → Option TI} {w0 : World} {G : Ghost} {w : World} {σ : St}

def abnd (d : Nat) : Option AV → Option Nat
  | none => some d
  | some (.int _ i) => if 0 ≤ i then some i.toNat else none
  | some _ => none
inductive RelO (G : Ghost) : Option Value → Option AV → Prop where
  | none : RelO G .none .none
  | some {v : Value} {a : AV} (h : Rel G v a) : RelO G (.some v) (.some a)
theorem bounds_sound (b : Bool) (len cap l h : Nat) {vlo vhi : Option Value} {lo hi : Option AV} (hlo : RelO G vlo lo) (hhi : RelO G vhi hi) (h1 : abnd 0 lo = some l) (h2 : abnd len hi = some h) (hle : l ≤ h) (hc : h ≤ cap) :
    (Instr.sliceBounds b len cap vlo vhi none).run P w = .ok (l, h, cap) w := by
  have key : ∀ (a : AV) (v : Value) (d n : Nat), Rel G v a → abnd d (some a) = some n → ∃ k, v = .int k (n : Int) := by
    intro a v d n hr ha
    unfold abnd at ha
    split at ha
    · cases ‹some a = none›
    · rename_i k i he
      cases he
      split at ha
      · rename_i h0
        simp at ha
        cases hr
        exact ⟨k, by rw [← ha, Int.toNat_of_nonneg h0]⟩
      · cases ha
    · cases ha
  cases hlo with
  | none =>
    simp [abnd] at h1
    subst h1
    cases hhi with
    | none => simp [abnd] at h2; subst h2; simp [Instr.sliceBounds]
    | some hr =>
      obtain ⟨k, rfl⟩ := key _ _ _ _ hr h2
      simp [Instr.sliceBounds, run_sliceBound _ _ _ _ _ (Int.natCast_nonneg h) (by omega : (h : Int) ≤ cap)]
  | some hl =>
    obtain ⟨k, rfl⟩ := key _ _ _ _ hl h1
    cases hhi with
    | none =>
      simp [abnd] at h2; subst h2
      simp [Instr.sliceBounds, run_sliceBound _ _ _ _ _ (Int.natCast_nonneg l) (by omega : (l : Int) ≤ len)]
    | some hr =>
      obtain ⟨k', rfl⟩ := key _ _ _ _ hr h2
      simp [Instr.sliceBounds, run_sliceBound _ _ _ _ _ (Int.natCast_nonneg h) (by omega : (h : Int) ≤ cap), run_sliceBound _ _ _ _ _ (Int.natCast_nonneg l) (by omega : (l : Int) ≤ h)]

def aslice (Ty : TypeId → Option TI) (T : TypeId) (x : AV) (lo hi : Option AV) (σ : St) : Option AV :=
  match tdOf Ty T, x with
  | .slice e, .sl t sz es => match abnd 0 lo, abnd es.length hi with
    | some l, some h => if l ≤ h ∧ h ≤ es.length ∧ sz = szOf Ty e ∧ sz ≠ 0 then some (.sl (if h = es.length then t else .no) sz ((es.take h).drop l)) else none
    | _, _ => none
  | .slice e, .nils => match abnd 0 lo, abnd 0 hi with
    | some 0, some 0 => if szOf Ty e ≠ 0 then some .nils else none
    | _, _ => none
  | .slice e, .msl id off len => match abnd 0 lo, abnd len hi with
    | some l, some h => if l ≤ h ∧ h ≤ len ∧ (l = 0 ∨ l < h) ∧ szOf Ty e ≠ 0 then some (.msl id (off + l * szOf Ty e) (h - l)) else none
    | _, _ => none
  | .arr n e, .ref id off => match abnd 0 lo, abnd n hi with
    | some l, some h => if l ≤ h ∧ h ≤ n ∧ (l = 0 ∨ l < h) ∧ szOf Ty e ≠ 0 then some (.msl id (off + l * szOf Ty e) (h - l)) else none
    | _, _ => none
  | .str, .str s => match abnd 0 lo, abnd s.size hi with
    | some l, some h => if l ≤ h ∧ h ≤ s.size then some (.str (s.extract l h)) else none
    | _, _ => none
  | _, _ => none
theorem sliceAt_other {T : TypeId} {d : TypeDesc} (hu : P.underlying T = some d) (hn : ∀ n e, d ≠ .array n e) (x : Value) (lo hi mx : Option Value) : (Instr.sliceAt T x lo hi mx).run P w = (Instr.slice T x lo hi mx).run P w := by
  unfold Instr.sliceAt
  simp only [Sem.run_bind, run_underlying hu, Result.andThen_ok]
theorem aslice_sound (hT : TyOk P Ty) {T : TypeId} {x : AV} {vx : Value} {vlo vhi : Option Value} {lo hi : Option AV} (hx : Rel G vx x) (hlo : RelO G vlo lo) (hhi : RelO G vhi hi) {a : AV} (h : aslice Ty T x lo hi σ = some a) :
    ∃ v, (Instr.sliceAt T vx vlo vhi none).run P w = .ok v w ∧ Rel G v a := by
  unfold aslice at h
  split at h
  · rename_i e t sz es hd
    split at h
    case h_2 => cases h
    rename_i l hh e1 e2
    split at h
    case isFalse => cases h
    rename_i hc
    obtain ⟨c1, c2, rfl, c4⟩ := hc
    simp at h
    subst h
    have hu := tdOf_ok hT hd (by simp)
    have hlen : ((es.take hh).drop l).length = hh - l := by simp; omega
    obtain ⟨A, c, news, hR⟩ := hx.row
    have hcl := hR.le
    have hrun : (Instr.sliceAt T vx vlo vhi none).run P w = .ok (.slice (if c = l then A else A.map (·.add (l * szOf Ty e))) (hh - l) (c - l)) w := by
      rw [sliceAt_other hu (by simp), hR.val]
      simp [Instr.slice, run_underlying hu, bounds_sound true es.length c l hh hlo hhi e1 e2 c1 (by omega), szOf_run (P := P) hT c4 w]
    refine ⟨_, hrun, ?_⟩
    rw [← hlen]
    cases hx with
    | sl0 A' c' t sz hm ht =>
      have hv := hR.val
      injection hv with e3 e4 e5
      subst e3; subst e5
      have h0 : hh = 0 := by simpa using c2
      subst h0
      obtain rfl : l = 0 := by omega
      have : (if c' = 0 then A' else A'.map (·.add (0 * szOf Ty e))) = A' := by
        split
        · rfl
        · cases A' <;> simp [Addr.add]
      rw [this]
      simpa using Rel.sl0 A' c' t (szOf Ty e) hm ht
    | sl b o c' t sz es val hc hm hz hf hr ht =>
      have hv := hR.val
      injection hv with e3 e4 e5
      subst e3; subst e5
      by_cases hcl' : c' = l
      · subst hcl'
        have : hh = es.length := by omega
        have he : (es.take hh).drop c' = [] := List.eq_nil_of_length_eq_zero (by rw [hlen]; omega)
        rw [if_pos rfl, he]
        have h0 : c' - c' = 0 := by omega
        rw [h0]
        exact .sl0 _ 0 _ _ (Nat.zero_le _) (.inr ⟨rfl, by split; exact ht.in_; trivial⟩)
      · rw [if_neg hcl']
        simp only [Option.map_some, Addr.add_lit]
        have hget : ∀ (i : Nat) (y : AV), ((es.take hh).drop l)[i]? = some y → es[i + l]? = some y := fun i y hy => by
          rw [List.getElem?_drop, List.getElem?_take] at hy
          split at hy
          · rw [Nat.add_comm]; exact hy
          · cases hy
        refine .sl b (o + l * szOf Ty e) (c' - l) _ (szOf Ty e) _ (fun i j => val (i + l) j) (by rw [hlen]; omega) (by omega) (fun y hy => hz y (List.mem_of_mem_take (List.mem_of_mem_drop hy)))
          (fun i y j a h1 h2 => ?_) (fun i y j a h1 h2 => hr (i + l) y j a (hget i y h1) h2) ?_
        · have := hf (i + l) y j a (hget i y h1) h2
          rw [Nat.add_mul] at this
          rw [← this]
          congr 1
          omega
        · rw [hlen]
          split
          · rename_i he
            cases t with
            | no => trivial
            | full => simp only [TokOk] at ht ⊢; exact ⟨by omega, ht.2⟩
            | own t =>
              simp only [TokOk] at ht ⊢
              refine ⟨ht.1, ?_⟩
              rcases ht.2 with ht | ht
              · exact .inl (by omega)
              · refine .inr ?_
                rw [ht]
                have a1 : es.length * szOf Ty e = l * szOf Ty e + (hh - l) * szOf Ty e := by rw [← Nat.add_mul, he]; congr 1; omega
                have a2 : c' * szOf Ty e = l * szOf Ty e + (c' - l) * szOf Ty e := by rw [← Nat.add_mul]; congr 1; omega
                rw [a1, a2, Nat.add_assoc, Nat.add_assoc]
          · trivial
  · rename_i e hd
    split at h
    case h_2 => cases h
    rename_i e1 e2
    split at h
    case isFalse => cases h
    rename_i hs
    simp at h
    subst h
    cases hx
    have hu := tdOf_ok hT hd (by simp)
    refine ⟨.slice none 0 0, ?_, .nils⟩
    rw [sliceAt_other hu (by simp)]
    simp [Instr.slice, run_underlying hu, bounds_sound true 0 0 0 0 hlo hhi e1 e2 (Nat.le_refl _) (Nat.le_refl _), szOf_run (P := P) hT hs w]
  · rename_i e id off len hd
    split at h
    case h_2 => cases h
    rename_i l hh e1 e2
    split at h
    case isFalse => cases h
    rename_i hc
    obtain ⟨c1, c2, c3, c4⟩ := hc
    simp at h
    subst h
    cases hx
    rename_i c b hl hlec
    have hu := tdOf_ok hT hd (by simp)
    refine ⟨.slice (some ⟨b, off + l * szOf Ty e, none⟩) (hh - l) (c - l), ?_, .msl _ _ _ _ b (by omega) hl⟩
    rw [sliceAt_other hu (by simp)]
    have hx : (if c = l then some (⟨b, off, none⟩ : Addr) else some ⟨b, off + l * szOf Ty e, none⟩) = some ⟨b, off + l * szOf Ty e, none⟩ := by
      split
      · rcases c3 with rfl | c3
        · simp
        · omega
      · rfl
    simp [Instr.slice, run_underlying hu, bounds_sound true len c l hh hlo hhi e1 e2 c1 (by omega), szOf_run (P := P) hT c4 w, Addr.add_lit, hx]
  · rename_i n e id off hd
    split at h
    case h_2 => cases h
    rename_i l hh e1 e2
    split at h
    case isFalse => cases h
    rename_i hc
    obtain ⟨c1, c2, c3, c4⟩ := hc
    simp at h
    subst h
    cases hx
    rename_i b hl
    have hu := tdOf_ok hT hd (by simp)
    refine ⟨.slice (some ⟨b, off + l * szOf Ty e, none⟩) (hh - l) (n - l), ?_, .msl _ _ _ _ b (by omega) hl⟩
    have hx : (if n = l then (⟨b, off, none⟩ : Addr) else ⟨b, off + l * szOf Ty e, none⟩) = ⟨b, off + l * szOf Ty e, none⟩ := by
      split
      · rcases c3 with rfl | c3
        · simp
        · omega
      · rfl
    simp [Instr.sliceAt, run_underlying hu, Instr.sureAddr, bounds_sound false n n l hh hlo hhi e1 e2 c1 c2, szOf_run (P := P) hT c4 w, Addr.add_lit, hx]
  · rename_i s hd
    split at h
    case h_2 => cases h
    rename_i l hh e1 e2
    split at h
    case isFalse => cases h
    rename_i hc
    obtain ⟨c1, c2⟩ := hc
    simp at h
    subst h
    cases hx
    have hu := tdOf_ok hT hd (by simp)
    refine ⟨_, ?_, .str _⟩
    rw [sliceAt_other hu (by simp)]
    simp [Instr.slice, run_underlying hu, bounds_sound false s.size s.size l hh hlo hhi e1 e2 c1 c2]
  · cases h
end
section
variable {P : Program} {Ty : TypeId → Option TI} {w0 : World} {G : Ghost} {w : World} {σ : St}

theorem foldl_set (off : Nat) : ∀ (vs : List Value) (k : Nat) (cs : Array Value), off + k + vs.length ≤ cs.size →
    ((vs.zipIdx k).foldl (fun (cs : Array Value) (p : Value × Nat) => cs.setIfInBounds (off + p.2) p.1) cs).toList = cs.toList.take (off + k) ++ vs ++ cs.toList.drop (off + k + vs.length)
  | [], k, cs, _ => by simp
  | v :: vs, k, cs, h => by
    simp only [List.length_cons] at h
    rw [List.zipIdx_cons, List.foldl_cons, foldl_set off vs (k + 1) _ (by simp; omega)]
    simp only [Array.toList_setIfInBounds, List.length_cons]
    have hlt : off + k < cs.toList.length := by simp; omega
    have e1 : (cs.toList.set (off + k) v).take (off + (k + 1)) = cs.toList.take (off + k) ++ [v] := by
      rw [← Nat.add_assoc, List.take_succ_eq_append_getElem (by simpa using hlt)]
      rw [List.take_set_of_le (Nat.le_refl _)]
      simp
    have e2 : (cs.toList.set (off + k) v).drop (off + (k + 1) + vs.length) = cs.toList.drop (off + k + (vs.length + 1)) := by
      rw [List.drop_set_of_lt (by omega)]
      congr 1
      omega
    rw [e1, e2]
    simp
inductive PartsRel (G : Ghost) : List (Nat × Value) → List (Nat × AV) → Prop where
  | nil : PartsRel G [] []
  | cons (i : Nat) {v : Value} {a : AV} {ps : List (Nat × Value)} {aas : List (Nat × AV)} (h : Rel G v a) (t : PartsRel G ps aas) : PartsRel G ((i, v) :: ps) ((i, a) :: aas)
theorem partsRel_map {ρ : Operand → Value} {ev : Operand → AV} (h : ∀ x, Rel G (ρ x) (ev x)) : ∀ (ps : List (Nat × Operand)), PartsRel G (ps.map fun p => (p.1, ρ p.2)) (ps.map fun p => (p.1, ev p.2))
  | [] => .nil
  | (i, x) :: ps => .cons i (h x) (partsRel_map h ps)
def afill (place : Nat → Option (Nat × Nat)) : List AV → List (Nat × AV) → Option (List AV)
  | cells, [] => some cells
  | cells, (i, v) :: rest => match place i with
    | some (off, size) => if v.cells.all flatAV = true ∧ v.cells.length = size ∧ off + size ≤ cells.length then afill place (repl cells off v.cells) rest else none
    | none => none
theorem afill_sound (place : Nat → Option (Nat × Nat)) : ∀ {ps : List (Nat × Value)} {aas : List (Nat × AV)} (_ : PartsRel G ps aas) {cells : Array Value} {ac r : List AV} (_ : RelL G cells.toList ac) (_ : ∀ u ∈ cells.toList, u.oneCell' = true) (_ : afill place ac aas = some r),
    ∃ cells', Instr.fill place cells ps = some cells' ∧ RelL G cells'.toList r ∧ ∀ u ∈ cells'.toList, u.oneCell' = true
  | _, _, .nil, cells, ac, r, hr, h1, h => by
    simp [afill] at h
    subst h
    exact ⟨cells, rfl, hr, h1⟩
  | _, _, .cons i hv t, cells, ac, r, hr, h1, h => by
    rename_i v a ps aas
    simp only [afill] at h
    split at h
    case h_2 => cases h
    rename_i off size hp
    split at h
    case isFalse => cases h
    rename_i hc
    obtain ⟨c1, c2, c3⟩ := hc
    obtain ⟨hrc, h1c⟩ := cells_flat hv c1
    have hsz : v.cells.size = size := by have := hrc.len; simp at this; omega
    have hcs : cells.size = ac.length := by simpa using hr.len
    have hfold := foldl_set off v.cells.toList 0 cells (by simp; omega)
    simp only [Nat.add_zero] at hfold
    have hzip : v.cells.zipIdx.foldl (fun (cs : Array Value) (x : Value × Nat) => cs.setIfInBounds (off + x.2) x.1) cells = (v.cells.toList.zipIdx 0).foldl (fun (cs : Array Value) (p : Value × Nat) => cs.setIfInBounds (off + p.2) p.1) cells := by
      rw [← Array.foldl_toList]
      congr 1
      simp
    obtain ⟨cells', k1, k2, k3⟩ := afill_sound place t (cells := v.cells.zipIdx.foldl (fun (cs : Array Value) (x : Value × Nat) => cs.setIfInBounds (off + x.2) x.1) cells) (by rw [hzip, hfold]; exact repl_rel hr hrc off) (by
      rw [hzip, hfold]
      intro u hu
      simp only [List.mem_append] at hu
      rcases hu with (hu | hu) | hu
      · exact h1 u (List.mem_of_mem_take hu)
      · exact h1c u hu
      · exact h1 u (List.mem_of_mem_drop hu)) h
    refine ⟨cells', ?_, k2, k3⟩
    simp only [Instr.fill, hp]
    rw [if_neg (by simp [hsz]; omega)]
    exact k1

def aplace (Ty : TypeId → Option TI) (T : TypeId) : Option (Nat → Option (Nat × Nat)) :=
  match tdOf Ty T with
  | .struct fs => if fs.all (fun f => (Ty f.2).isSome) then some (fun i => (fs.map fun f => (f.1, szOf Ty f.2))[i]?) else none
  | .arr _ e => if (Ty e).isSome then some (fun i => some (i * szOf Ty e, szOf Ty e)) else none
  | _ => none
def abuild (Ty : TypeId → Option TI) (T : TypeId) (parts : List (Nat × AV)) : Option AV :=
  match Ty T, aplace Ty T with
  | some i, some place => match afill place i.zero.cells parts with | some cs => some (.agg cs) | none => none
  | _, _ => none
theorem szOf_info (hT : TyOk P Ty) {t : TypeId} (h : (Ty t).isSome = true) : ∃ ti, P.info? t = some ti ∧ ti.size = szOf Ty t := by
  obtain ⟨i, hi⟩ := Option.isSome_iff_exists.1 h
  obtain ⟨ti, z, h1, h2, _⟩ := (hT t i hi).info
  exact ⟨ti, h1, by rw [h2, szOf, hi]⟩
theorem abuild_sound (hT : TyOk P Ty) {T : TypeId} {ps : Array (Nat × Value)} {aas : List (Nat × AV)} (hp : PartsRel G ps.toList aas) {a : AV} (h : abuild Ty T aas = some a) : ∃ v, (Instr.build T ps).run P w = .ok v w ∧ Rel G v a := by
  unfold abuild at h
  split at h
  case h_2 => cases h
  rename_i i place hi hpl
  split at h
  case h_2 => cases h
  rename_i cs hf
  simp at h
  subst h
  obtain ⟨ti, z, h1, h2, h3, h4, h5, h6, h7, h8⟩ := (hT T i hi).info
  have hz1 : ∀ u ∈ z.cells.toList, u.oneCell' = true := fun u hu => by
    rw [Array.all_eq_true_iff_forall_mem] at h8
    exact h8 u (Array.mem_toList_iff.1 hu)
  obtain ⟨cells', k1, k2, k3⟩ := afill_sound place hp (h5 G) hz1 hf
  refine ⟨.agg cells', run_build w T ps cells' ?_, mkAgg k2⟩
  unfold aplace at hpl
  unfold Program.built
  split at hpl
  · rename_i fs hd
    split at hpl
    case isFalse => cases hpl
    rename_i hall
    simp at hpl
    subst hpl
    obtain ⟨fields, hu, hfs⟩ := tdOf_ok hT hd (by simp)
    have hm : ∀ (l : List Field), (∀ f ∈ l, (Ty f.type).isSome = true) → l.mapM (fun f => (P.info? f.type).map fun i => (f.offset, i.size)) = some (l.map fun f => (f.offset, szOf Ty f.type)) := by
      intro l
      induction l with
      | nil => intro _; rfl
      | cons f l ih =>
        intro hl
        obtain ⟨ti', e1, e2⟩ := szOf_info hT (hl f List.mem_cons_self)
        simp [List.mapM_cons, e1, e2, ih (fun g hg => hl g (List.mem_cons_of_mem _ hg))]
    have hm' := hm fields.toList (fun f hf => by
      rw [List.all_eq_true] at hall
      exact hall (f.offset, f.type) (by rw [← hfs]; exact List.mem_map.2 ⟨f, hf, rfl⟩))
    simp only [hu, h1, h4, hm']
    rw [← k1]
    congr 1
    funext x
    rw [← hfs]
    simp only [List.getElem?_toArray, List.getElem?_map]
    cases fields.toList[x]? <;> rfl
  · rename_i n e hd
    split at hpl
    case isFalse => cases hpl
    rename_i he
    simp at hpl
    subst hpl
    have hu : P.underlying T = some (.array n e) := tdOf_ok hT hd (by simp)
    obtain ⟨ti', e1, e2⟩ := szOf_info hT he
    simp only [hu, h1, h4, e1, e2]
    exact k1
  · cases hpl

theorem flat_set {sz : Nat} : ∀ {es : List AV} (_ : ∀ e ∈ es, e.cells.length = sz) {i : Nat} (_ : i < es.length) {v : AV} (_ : v.cells.length = sz), flat (es.set i v) = repl (flat es) (i * sz) v.cells
  | [], _, i, hi, _, _ => by simp at hi
  | e :: es, h, i, hi, v, hv => by
    have he := h e List.mem_cons_self
    cases i with
    | zero => simp [flat_cons, repl, hv, ← he]
    | succ i =>
      have ih := flat_set (fun x hx => h x (List.mem_cons_of_mem _ hx)) (i := i) (by simpa using hi) hv
      rw [List.set_cons_succ, flat_cons, flat_cons, ih]
      unfold repl
      rw [Nat.add_mul, Nat.one_mul, List.take_append, List.drop_append, List.take_of_length_le (l := e.cells) (by omega), List.drop_of_length_le (l := e.cells) (by omega)]
      rw [show i * sz + sz - e.cells.length = i * sz by omega, show i * sz + sz + v.cells.length - e.cells.length = i * sz + v.cells.length by omega]
      simp
theorem set_hz {sz : Nat} {es : List AV} (h : ∀ e ∈ es, e.cells.length = sz) {i : Nat} {v : AV} (hv : v.cells.length = sz) : ∀ e ∈ es.set i v, e.cells.length = sz := by
  intro e he
  rcases List.mem_or_eq_of_mem_set he with he | he
  · exact h e he
  · rw [he]; exact hv
def alay (sz : Nat) : List AV → List (Nat × AV) → Option (List AV)
  | es, [] => some es
  | es, (i, v) :: rest => if v.cells.all flatAV = true ∧ v.cells.length = sz ∧ i < es.length then alay sz (es.set i v) rest else none
theorem alay_fill {sz : Nat} : ∀ {aas : List (Nat × AV)} {es r : List AV} (_ : ∀ e ∈ es, e.cells.length = sz) (_ : alay sz es aas = some r), afill (fun i => some (i * sz, sz)) (flat es) aas = some (flat r) ∧ (∀ e ∈ r, e.cells.length = sz) ∧ r.length = es.length
  | [], es, r, hz, h => by simp [alay] at h; subst h; exact ⟨rfl, hz, rfl⟩
  | (i, v) :: aas, es, r, hz, h => by
    simp only [alay] at h
    split at h
    case isFalse => cases h
    rename_i hc
    obtain ⟨c1, c2, c3⟩ := hc
    obtain ⟨k1, k2, k3⟩ := alay_fill (set_hz hz c2) h
    refine ⟨?_, k2, by simpa using k3⟩
    simp only [afill]
    have hlt : i * sz + sz ≤ (flat es).length := by
      rw [flat_length hz, ← Nat.succ_mul]
      exact Nat.mul_le_mul_right _ c3
    rw [if_pos ⟨c1, c2, hlt⟩, ← flat_set hz c3 c2]
    exact k1
theorem made_rel {z : Value} {zc : AV} {sz : Nat} (hr : RelL G z.cells.toList zc.cells) (hs : z.cells.size = sz) (n : Nat) : RelL G (madeCells z.cells (n * sz)).toList (flat (List.replicate n zc)) := by
  have hl : zc.cells.length = sz := by rw [← hr.len]; simpa using hs
  have hz : ∀ e ∈ List.replicate n zc, e.cells.length = sz := fun e he => by rw [(List.mem_replicate.1 he).2]; exact hl
  refine ⟨by rw [flat_length hz]; simp [size_madeCells], fun k u a h1 h2 => ?_⟩
  obtain ⟨i, e, j, rfl, hj, h3, h4⟩ := flat_at hz h2
  have he : e = zc := (List.mem_replicate.1 (List.mem_iff_getElem?.2 ⟨i, h3⟩)).2
  subst he
  refine hr.at_ j u a ?_ h4
  have hk : i * sz + j < n * sz := by
    have := (List.getElem?_eq_some_iff.1 h2).1
    rwa [flat_length hz, List.length_replicate] at this
  simp only [madeCells, Array.toList_map, List.getElem?_map] at h1
  have : (Array.range (n * sz)).toList[i * sz + j]? = some (i * sz + j) := by simp [hk]
  rw [this] at h1
  simp only [Option.map_some, Option.some.injEq] at h1
  have hm : (i * sz + j) % z.cells.size = j := by rw [hs, Nat.mul_comm, Nat.mul_add_mod]; exact Nat.mod_eq_of_lt hj
  rw [hm] at h1
  have hj' : j < z.cells.size := by omega
  rw [getElem!_pos z.cells j hj'] at h1
  rw [Array.getElem?_toList, Array.getElem?_eq_getElem hj', h1]
theorem made_one {z : Value} {sz : Nat} (h1 : ∀ u ∈ z.cells.toList, u.oneCell' = true) (hs : z.cells.size = sz) (n : Nat) : ∀ u ∈ (madeCells z.cells (n * sz)).toList, u.oneCell' = true := by
  intro u hu
  simp only [madeCells, Array.toList_map, List.mem_map] at hu
  obtain ⟨k, hk, rfl⟩ := hu
  have hk' : k < n * sz := by simpa using hk
  have hpos : 0 < sz := by
    rcases Nat.eq_zero_or_pos sz with h0 | h0
    · subst h0; simp at hk'
    · exact h0
  have hlt : k % z.cells.size < z.cells.size := Nat.mod_lt _ (by omega)
  rw [getElem!_pos z.cells _ hlt]
  exact h1 _ (Array.mem_toList_iff.2 (Array.getElem_mem hlt))

def abuildSlice (Ty : TypeId → Option TI) (T : TypeId) (n : Nat) (parts : List (Nat × AV)) : Option AV :=
  match tdOf Ty T with
  | .slice e => match Ty e with
    | some i => if n * i.sz ≤ 16777216 ∧ 0 < i.sz then (match alay i.sz (List.replicate n i.zero) parts with | some es => some (.sl .full i.sz es) | none => none) else none
    | none => none
  | _ => none
theorem abuildSlice_sound (hT : TyOk P Ty) (hI : Inv w0 G w σ) {T : TypeId} {n : Nat} {ps : Array (Nat × Value)} {aas : List (Nat × AV)} (hp : PartsRel G ps.toList aas) {a : AV} (h : abuildSlice Ty T n aas = some a) :
    ∃ v w' G', (Instr.buildSlice T n ps).run P w = .ok v w' ∧ G.Le G' ∧ Inv w0 G' w' σ ∧ Rel G' v a := by
  unfold abuildSlice at h
  split at h
  case h_2 => cases h
  rename_i e hd
  split at h
  case h_2 => cases h
  rename_i i hi
  split at h
  case isFalse => cases h
  rename_i hc
  split at h
  case h_2 => cases h
  rename_i es hes
  simp at h
  subst h
  obtain ⟨ti, z, h1, h2, h3, h4, h5, h6, h7, h8⟩ := (hT e i hi).info
  have hz1 : ∀ u ∈ z.cells.toList, u.oneCell' = true := fun u hu => by
    rw [Array.all_eq_true_iff_forall_mem] at h8
    exact h8 u (Array.mem_toList_iff.1 hu)
  have hrz : ∀ e ∈ List.replicate n i.zero, e.cells.length = i.sz := fun e he => by rw [(List.mem_replicate.1 he).2]; exact h7
  obtain ⟨k1, k2, k3⟩ := alay_fill hrz hes
  obtain ⟨cells', f1, f2, f3⟩ := afill_sound (fun j => some (j * i.sz, i.sz)) hp (made_rel (h5 G) h6 n) (made_one hz1 h6 n) k1
  have hu := tdOf_ok hT hd (by simp)
  have hel : es.length = n := by simpa using k3
  have hrun : (Instr.buildSlice T n ps).run P w = .ok (.slice (some ⟨w.heap.size, 0, none⟩) n n) (w.alloc (.cells cells' e)) := by
    by_cases h0 : n * i.sz = 0
    · have hn : n = 0 := by rcases Nat.mul_eq_zero.1 h0 with h | h <;> omega
      subst hn
      have hm0 : madeCells z.cells (0 * i.sz) = #[] := by simp [madeCells]
      rw [hm0] at f1
      simp [Instr.buildSlice, run_underlying hu, Go.sizeOf, typeInfo, h1, h2, newRow, Array.range_zero', f1]
    · exact run_buildSlice w T e n ps cells' ti z hu h1 h4 (by rw [h2]; omega) (by rw [h2]; exact h0) (by rw [h2]; exact f1)
  obtain ⟨hle1, hI1⟩ := hI.alloc_fz cells' e f3 (0, 0)
  obtain ⟨hle2, hI'⟩ := hI1.lit_new (b := w.heap.size) hI.below.size (by simp) (fun id hl => by have := hI.loclt (id := id) (b := w.heap.size) hl; omega) (fun t x ho ht => by
    simp [Ghost.addRow] at ht
    obtain ⟨_, ⟨cs', T', e2, _⟩, _, _⟩ := hI.tok t x.1 x.2.1 x.2.2 ho ht
    have := (Array.getElem?_eq_some_iff.1 e2).1
    omega)
  have hle := hle1.trans hle2
  refine ⟨_, _, _, hrun, hle, hI', ?_⟩
  have hmax : n ≤ maxLen := by
    have : n * 1 ≤ n * i.sz := Nat.mul_le_mul_left _ hc.2
    simp only [maxLen]; omega
  rw [← hel]
  refine Rel.mkSl (Nat.le_refl _) (by rw [hel]; exact hmax) k2 (f2.mono hle) (fun j u hu => ?_) ⟨rfl, by simp [Ghost.addLit]⟩
  simp [Ghost.addRow, Ghost.addLit]
  simpa using hu

def amake (Ty : TypeId → Option TI) (mu : Bool) (T : TypeId) (x y : AV) (σ : St) : Option (AV × St) :=
  match tdOf Ty T, x, y with
  | .slice e, .int _ n, .int _ c => match Ty e with
    | some i => if 0 ≤ n ∧ n ≤ c ∧ (i.bytes : Int) * c ≤ 281474976710656 ∧ c ≤ 9223372036854775807 then
        (if mu then (if n = c then some (.msl σ.objs.length 0 n.toNat, ⟨σ.objs ++ [flat (List.replicate n.toNat i.zero)], σ.opn, σ.gl⟩) else none)
         else some (.sl (.own σ.opn.length) i.sz (List.replicate n.toNat i.zero), ⟨σ.objs, σ.opn ++ [true], σ.gl⟩))
      else none
    | none => none
  | _, _, _ => none
theorem amake_sound (hT : TyOk P Ty) (hI : Inv w0 G w σ) {mu : Bool} {T : TypeId} {x y : AV} {vx vy : Value} (hx : Rel G vx x) (hy : Rel G vy y) {a : AV} {σ' : St} (h : amake Ty mu T x y σ = some (a, σ')) :
    ∃ v w' G', (Instr.makeSlice T vx vy).run P w = .ok v w' ∧ G.Le G' ∧ Inv w0 G' w' σ' ∧ Rel G' v a := by
  unfold amake at h
  split at h
  case h_2 => cases h
  rename_i e k n k' c hd
  split at h
  case h_2 => cases h
  rename_i i hi
  split at h
  case isFalse => cases h
  rename_i hc
  obtain ⟨c1, c2, c3, c4⟩ := hc
  cases hx; cases hy
  obtain ⟨ti, z, h1, h2, h3, h4, h5, h6, h7, h8⟩ := (hT e i hi).info
  have hz1 : ∀ u ∈ z.cells.toList, u.oneCell' = true := fun u hu => by
    rw [Array.all_eq_true_iff_forall_mem] at h8
    exact h8 u (Array.mem_toList_iff.1 hu)
  have hu := tdOf_ok hT hd (by simp)
  have hrun := run_make (P := P) w T e ti z hu h1 h4 k k' n c c1 c2 (by rw [h3]; exact c3) c4
  rw [h2] at hrun
  have hmax : c.toNat ≤ maxLen := by simp only [maxLen]; omega
  split at h
  · split at h
    case isFalse => cases h
    rename_i hnc
    subst hnc
    simp at h
    obtain ⟨rfl, rfl⟩ := h
    obtain ⟨hle, hI'⟩ := hI.alloc_loc (madeCells z.cells (n.toNat * i.sz)) e _ (.of (made_rel (h5 G) h6 n.toNat)) (made_one hz1 h6 n.toNat)
    exact ⟨_, _, _, hrun, hle, hI', .msl _ _ _ _ w.heap.size (Nat.le_refl _) (by simp [Ghost.addLoc])⟩
  · simp at h
    obtain ⟨rfl, rfl⟩ := h
    have hnc : n.toNat ≤ c.toNat := by omega
    have htk : ((madeCells z.cells (c.toNat * i.sz)).toList.take (n.toNat * i.sz)) = (madeCells z.cells (n.toNat * i.sz)).toList := by
      simp only [madeCells, Array.toList_map, ← List.map_take]
      congr 1
      have := Nat.mul_le_mul_right i.sz hnc
      simp [Nat.min_eq_left this]
    obtain ⟨hle, hI'⟩ := hI.alloc_row (madeCells z.cells (c.toNat * i.sz)) e (n.toNat * i.sz) (by rw [size_madeCells]; exact Nat.mul_le_mul_right _ hnc) (by rw [htk]; exact made_one hz1 h6 _)
    refine ⟨_, _, _, hrun, hle, hI', ?_⟩
    have hlen : (List.replicate n.toNat i.zero).length = n.toNat := List.length_replicate
    have key := Rel.mkSl (G := G.addRow w.heap.size ((madeCells z.cells (c.toNat * i.sz)).toList.take (n.toNat * i.sz)) σ.opn.length (some (w.heap.size, n.toNat * i.sz, (madeCells z.cells (c.toNat * i.sz)).size))) (b := w.heap.size) (o := 0) (c := c.toNat) (sz := i.sz) (t := .own σ.opn.length) (es := List.replicate n.toNat i.zero) (news := (madeCells z.cells (n.toNat * i.sz)).toList)
      (by rw [hlen]; exact hnc) hmax (fun e he => by rw [(List.mem_replicate.1 he).2]; exact h7) ((made_rel (h5 G) h6 n.toNat).mono hle)
      (fun j u hu => by simp only [Ghost.addRow, if_true, Nat.zero_add]; rw [htk]; exact hu)
      ⟨by simp [Ghost.addRow], .inr (by simp only [Ghost.addRow, if_true, Nat.zero_add, size_madeCells, hlen])⟩
    rw [hlen] at key
    exact key

def aalloc (Ty : TypeId → Option TI) (T : TypeId) (σ : St) : Option (AV × St) :=
  match Ty T with
  | some i => some (.ref σ.objs.length 0, ⟨σ.objs ++ [i.zero.cells], σ.opn, σ.gl⟩)
  | none => none
theorem aalloc_sound (hT : TyOk P Ty) (hI : Inv w0 G w σ) {T : TypeId} {a : AV} {σ' : St} (h : aalloc Ty T σ = some (a, σ')) (old : Value) :
    ∃ v w' G', (Instr.alloc T true old).run P w = .ok v w' ∧ G.Le G' ∧ Inv w0 G' w' σ' ∧ Rel G' v a := by
  unfold aalloc at h
  split at h
  case h_2 => cases h
  rename_i i hi
  simp at h
  obtain ⟨rfl, rfl⟩ := h
  obtain ⟨z, e1, e2, e3, e4⟩ := zero_run (P := P) hT hi w
  obtain ⟨hle, hI'⟩ := hI.alloc_loc z.cells T _ (.of (e2 G)) e3
  exact ⟨.pointer (some ⟨w.heap.size, 0, none⟩), _, _, by simp [Instr.alloc, e1, newVar, newRow], hle, hI', .ref _ _ w.heap.size (by simp [Ghost.addLoc])⟩
def abox (mu : Bool) (x : AV) (σ : St) : Option (AV × St) :=
  if x.cells.all flatAV = true then (if mu then some (.ref σ.objs.length 0, ⟨σ.objs ++ [x.cells], σ.opn, σ.gl⟩) else some (.fptr x.cells 0, σ)) else none
theorem abox_sound (hI : Inv w0 G w σ) {mu : Bool} {T : TypeId} {x : AV} {vx : Value} (hx : Rel G vx x) {a : AV} {σ' : St} (h : abox mu x σ = some (a, σ')) :
    ∃ v w' G', (Instr.box T vx).run P w = .ok v w' ∧ G.Le G' ∧ Inv w0 G' w' σ' ∧ Rel G' v a := by
  unfold abox at h
  split at h
  case isFalse => cases h
  rename_i hf
  obtain ⟨hr, h1⟩ := cells_flat hx hf
  split at h
  · simp at h
    obtain ⟨rfl, rfl⟩ := h
    obtain ⟨hle, hI'⟩ := hI.alloc_loc vx.cells T _ (.of hr) h1
    exact ⟨.pointer (some ⟨w.heap.size, 0, none⟩), _, _, by simp [Instr.box, newVar, newRow], hle, hI', .ref _ _ w.heap.size (by simp [Ghost.addLoc])⟩
  · simp at h
    obtain ⟨rfl, rfl⟩ := h
    obtain ⟨hle, hI'⟩ := hI.alloc_fz vx.cells T h1 (0, 0)
    refine ⟨.pointer (some ⟨w.heap.size, 0, none⟩), _, _, by simp [Instr.box, newVar, newRow], hle, hI', ?_⟩
    have hr' := hr.mono hle
    refine .fptr w.heap.size 0 0 x.cells (fun j => (vx.cells.toList[j]?).getD undef) (fun j a ha => ?_) (fun j a ha => ?_)
    · obtain ⟨u, hu, _⟩ := hr.get ha
      simp only [Ghost.addRow, if_true, Nat.zero_add]
      rw [hu]; rfl
    · obtain ⟨u, hu, hru⟩ := hr'.get ha
      rw [hu]
      exact hru
end
section
variable {P : Program} {Ty : TypeId → Option TI} {w0 : World} {G : Ghost} {w : World} {σ : St}

theorem bytesWorld_eq (w : World) (e : TypeId) (s : ByteArray) : Lib.bytesWorld w e s = w.drew.alloc (.cells (Lib.bytesCells w e s) e ((Lib.bytesCells w e s).size, (Lib.bytesCells w e s).size + 1)) := by
  have h1 : ∀ k : Nat, (Lib.bytesWorld w e s).heap[k]? = (w.drew.alloc (.cells (Lib.bytesCells w e s) e ((Lib.bytesCells w e s).size, (Lib.bytesCells w e s).size + 1))).heap[k]? := by
    intro k
    rcases Nat.lt_trichotomy k w.heap.size with h | h | h
    · rw [Lib.bytesWorld_at_old w e s k h]
      exact (heap_alloc_old w.drew _ k h).symm
    · subst h
      rw [Lib.bytesWorld_at_new]
      exact (heap_alloc_new w.drew _).symm
    · rw [Array.getElem?_eq_none (by rw [Lib.bytesWorld_size]; omega), Array.getElem?_eq_none (by simp; omega)]
  have h2 := Array.ext_getElem? h1
  unfold Lib.bytesWorld World.freeze at h2 ⊢
  simp only [show (1 : Nat) ≠ 0 by decide, if_false] at h2 ⊢
  simp only [World.alloc, World.drew] at h2 ⊢
  rw [h2]

def isByte : AV → Bool
  | .int .u8 _ => true
  | _ => false
def byteOf : AV → Int
  | .int _ n => n
  | _ => 0
def strOf (es : List AV) : ByteArray := ⟨(es.map fun e => UInt8.ofNat (byteOf e).toNat).toArray⟩
def aconvM (Ty : TypeId → Option TI) (src dst : TypeId) (x : AV) : Option AV :=
  match tdOf Ty src, tdOf Ty dst, x with
  | .str, .slice e, .str s => match tdOf Ty e with | .int .u8 => if s.size ≤ 140737488355328 then some (.sl .no 1 (byteAVs s)) else none | _ => none
  | .slice e, .str, .nils => match tdOf Ty e with | .int .u8 => some (.str ByteArray.empty) | _ => none
  | .slice e, .str, .sl _ sz es => match tdOf Ty e with | .int .u8 => if sz = 1 ∧ es.all isByte = true then some (.str (strOf es)) else none | _ => none
  | .slice _, .slice e, .sl .full sz (y :: ys) => match tdOf Ty e with | .int .u8 => if src = dst then some (.sl .full sz (y :: ys)) else none | _ => none
  | _, _, _ => none
theorem foldl_push (ns : List Int) : ∀ (r : ByteArray), ns.foldl (fun (r : ByteArray) n => r.push (UInt8.ofNat n.toNat)) r = ⟨(r.data.toList ++ ns.map fun n => UInt8.ofNat n.toNat).toArray⟩ := by
  induction ns with
  | nil => intro r; cases r; simp
  | cons n ns ih =>
    intro r
    rw [List.foldl_cons, ih]
    cases r
    simp [ByteArray.push]
theorem freeze_heap (w : World) (b n : Nat) (k : Nat) (hk : k ≠ b) : (w.freeze ⟨b, n, none⟩ 1).heap[k]? = w.heap[k]? := by
  simp only [World.freeze]
  rw [if_neg (by decide)]
  simp only [Array.getElem?_modify]
  rw [if_neg (Ne.symm hk)]
theorem freeze_size (w : World) (b n : Nat) : (w.freeze ⟨b, n, none⟩ 1).heap.size = w.heap.size := by
  simp only [World.freeze]
  rw [if_neg (by decide)]
  simp
theorem freeze_cell (w : World) (b n : Nat) (a : Addr) : (w.freeze ⟨b, n, none⟩ 1).cell? a = w.cell? a := by
  by_cases hk : a.block = b
  · simp only [World.cell?, World.freeze]
    rw [if_neg (by decide)]
    simp only [Array.getElem?_modify, hk, if_true]
    cases w.heap[b]? with
    | none => rfl
    | some o => 
      obtain ⟨c, e, lo, hi⟩ | _ := o <;> rfl
  · simp only [World.cell?]
    rw [freeze_heap w b n a.block hk]
theorem freeze_obj (w : World) (b n k : Nat) {o : Obj} (h : w.heap[k]? = some o) (ho : ∀ cs T f, o ≠ .cells cs T f) : (w.freeze ⟨b, n, none⟩ 1).heap[k]? = some o := by
  by_cases hk : k = b
  · subst hk
    simp only [World.freeze]
    rw [if_neg (by decide)]
    simp only [Array.getElem?_modify, if_true, h, Option.map_some]
    obtain ⟨c, e, lo, hi⟩ | _ := o
    · exact absurd rfl (ho _ _ _)
    all_goals rfl
  · rw [freeze_heap w b n k hk]; exact h
theorem Inv.mark {w0 : World} {G : Ghost} {w : World} {σ : St} (h : Inv w0 G w σ) {b : Nat} (hb : G.lit b = true) (n : Nat) : Inv w0 G (w.freeze ⟨b, n, none⟩ 1) σ := by
  obtain ⟨k1, k2, k3, k4⟩ := h.lit b hb
  have hz := freeze_size w b n
  refine ⟨⟨?_, ?_, ?_, by rw [hz]; exact h.below.size, fun k hk => ?_⟩, fun x o v hf => ⟨by rw [freeze_cell]; exact (h.fz x o v hf).1, (h.fz x o v hf).2⟩, fun id c hc hn hs => ?_, h.locfz, fun i x hi => by rw [freeze_size]; exact h.loclt i x hi, h.locdom, h.locinj, fun t x top en ho ht => ?_, h.tokdom, h.tokinj, h.nt, fun x hx => ?_, h.gl, h.sp_to (.refl G) (fun k o hn hko => freeze_obj w b n k hko hn) (fun _ _ h _ => h)⟩
  · rw [← h.below.os]; simp only [World.freeze]; rw [if_neg (by decide)]
  · rw [← h.below.tape]; simp only [World.freeze]; rw [if_neg (by decide)]
  · rw [← h.below.output]; simp only [World.freeze]; rw [if_neg (by decide)]
  · rw [freeze_heap w b n k (by omega)]; exact h.below.block k hk
  · obtain ⟨b', T', vs', e1, e2, e3, e4, e5, e6⟩ := h.loc id c hc hn hs
    exact ⟨b', T', vs', e1, e2, by rw [freeze_heap w b n b' (fun he => k3 id (he ▸ e1))]; exact e3, e4, e5, e6⟩
  · obtain ⟨e1, ⟨cs, T', e2, e3⟩, e4, e5⟩ := h.tok t x top en ho ht
    exact ⟨e1, ⟨cs, T', by rw [freeze_heap w b n x (k4 t _ ho ht)]; exact e2, e3⟩, e4, e5⟩
  · rw [hz]; exact h.lit x hx
theorem aconvM_sound (hT : TyOk P Ty) (hI : Inv w0 G w σ) {src dst : TypeId} {x : AV} {vx : Value} (hx : Rel G vx x) {a : AV} (h : aconvM Ty src dst x = some a) :
    ∃ v w' G', (convert src dst vx).run P w = .ok v w' ∧ G.Le G' ∧ Inv w0 G' w' σ ∧ Rel G' v a := by
  unfold aconvM at h
  split at h
  · rename_i e s hs hd
    split at h
    case h_2 => cases h
    rename_i he
    split at h
    case isFalse => cases h
    rename_i hsz
    simp at h
    subst h
    cases hx
    have hrun := Lib.run_convert_string_bytes (P := P) w src dst e s (tdOf_ok hT hs (by simp)) (tdOf_ok hT hd (by simp)) (tdOf_ok hT he (by simp))
    rw [bytesWorld_eq] at hrun
    have hcs : (Lib.bytesCells w e s).toList = byteCells s ++ List.replicate (grownCap w s.size 0 e - s.size) (.int .u8 0) := by
      simp [Lib.bytesCells, byteCells]
    obtain ⟨hle, hI'⟩ := hI.drew.alloc_fz (Lib.bytesCells w e s) e (fun u hu => by
      rw [hcs, List.mem_append] at hu
      rcases hu with hu | hu
      · obtain ⟨b, _, rfl⟩ := List.mem_map.1 hu; rfl
      · rw [(List.mem_replicate.1 hu).2]; rfl) ((Lib.bytesCells w e s).size, (Lib.bytesCells w e s).size + 1)
    refine ⟨_, _, _, hrun, hle, hI', ?_⟩
    have hbl : (byteAVs s).length = s.size := by rw [byteAVs, List.length_map, Array.length_toList]; rfl
    have h1 : ∀ a ∈ byteAVs s, a.cells = [a] := fun a ha => by
      obtain ⟨b, _, rfl⟩ := List.mem_map.1 ha
      rfl
    have hge := grownCap_ge w s.size 0 e
    have hcm := grownCap_le_maxLen w s.size 0 e (by simp only [maxLen]; omega)
    rw [← hbl]
    refine Rel.mkSl (news := byteCells s) (by rw [hbl]; exact hge) (by rw [hbl]; exact hcm) (fun e he => by rw [h1 e he]; rfl) ?_ (fun j u hu => ?_) trivial
    · rw [flat_one h1]
      refine ⟨by rw [byteCells_length, hbl], fun i v a h2 h3 => ?_⟩
      unfold byteCells at h2
      unfold byteAVs at h3
      rw [List.getElem?_map] at h2 h3
      cases hb : s.data.toList[i]? with
      | none => rw [hb] at h2; cases h2
      | some b => rw [hb] at h2 h3; cases h2; cases h3; exact .int _ _
    · simp only [Ghost.addRow, World.size_drew, if_true, Nat.zero_add]
      rw [hcs, List.getElem?_append_left (List.getElem?_eq_some_iff.1 hu).1]
      exact hu
  · rename_i e hs hd
    split at h
    case h_2 => cases h
    rename_i he
    simp at h
    subst h
    cases hx
    refine ⟨_, w, G, ?_, .refl G, hI, .str _⟩
    simp [convert, run_underlying (tdOf_ok hT hs (by simp)), run_underlying (tdOf_ok hT hd (by simp)), run_underlying (tdOf_ok hT he (by simp)), Conv.bytesToString]
  · rename_i e t sz es hs hd
    split at h
    case h_2 => cases h
    rename_i he
    split at h
    case isFalse => cases h
    rename_i hc
    obtain ⟨rfl, hall⟩ := hc
    simp at h
    subst h
    obtain ⟨A, c, news, hR⟩ := hx.row
    have hfl : flat es = es := flat_one (fun a ha => by
      rw [List.all_eq_true] at hall
      have := hall a ha
      cases a <;> first | rfl | simp [isByte] at this)
    have hrel := hR.rel
    rw [hfl] at hrel
    have hnews : news = (es.map byteOf).map (Value.int .u8) := by
      apply List.ext_getElem?
      intro j
      by_cases hj : j < es.length
      · obtain ⟨u, hu, hru⟩ := hrel.get (List.getElem?_eq_getElem hj)
        rw [hu, List.getElem?_map, List.getElem?_map, List.getElem?_eq_getElem hj]
        rw [List.all_eq_true] at hall
        have hb := hall _ (List.getElem_mem hj)
        revert hru hb
        generalize es[j] = x
        intro hru hb
        cases hru with
        | int k n => cases k <;> first | rfl | (exact absurd hb Bool.false_ne_true)
        | _ => exact absurd hb Bool.false_ne_true
      · rw [List.getElem?_eq_none (by rw [hrel.len]; omega), List.getElem?_eq_none (by simp; omega)]
    refine ⟨.string (strOf es), w, G, ?_, .refl G, hI, .str _⟩
    have hstr : strOf es = (es.map byteOf).foldl (fun (r : ByteArray) n => r.push (UInt8.ofNat n.toNat)) ByteArray.empty := by
      rw [foldl_push]
      simp [strOf, List.map_map]
    rw [hR.val]
    have hsrc := hR.src hI (tdOf_ok hT hs (by simp))
    have hconv : (Conv.bytesToString (.slice A es.length c)).run P w = .ok (.string (strOf es)) w := by
      cases A with
      | none =>
        have h0 : es.length = 0 := by
          rcases Nat.eq_zero_or_pos es.length with h0 | h0
          · exact h0
          · obtain ⟨b, o, he, _⟩ := hR.at_ h0; cases he
        have : es = [] := List.eq_nil_of_length_eq_zero h0
        subst this
        rfl
      | some ad =>
        rw [hstr]
        refine run_bytesToString w ad es.length c (es.map byteOf) ?_
        have hld := run_loadCells_list (P := P) (w := w) ad news (fun j u hu => by
          have hp : 0 < es.length := by
            have := (List.getElem?_eq_some_iff.1 hu).1
            rw [hrel.len] at this
            omega
          obtain ⟨b, o, he, hf⟩ := hR.at_ hp
          injection he with he
          subst he
          rw [Addr.add_lit]
          exact (hI.fz b _ u (hf j u hu)).1)
        rw [hrel.len] at hld
        rw [hld, hnews]
    cases A <;> simp [convert, run_underlying (tdOf_ok hT hs (by simp)), run_underlying (tdOf_ok hT hd (by simp)), run_underlying (tdOf_ok hT he (by simp)), hconv]
  · rename_i e e' sz y ys hs hd
    split at h
    case h_2 => cases h
    rename_i he
    split at h
    case isFalse => cases h
    rename_i heq
    subst heq
    obtain rfl : e = e' := by rw [hs] at hd; injection hd
    simp at h
    subst h
    have hr := hx
    cases hx with
    | sl b o c t sz es val hc hm hz hf h ht =>
      cases hsh : w.shape? b with
      | none =>
        refine ⟨_, w, G, ?_, .refl G, hI, hr⟩
        simp [convert, run_underlying (tdOf_ok hT hs (by simp)), run_underlying (tdOf_ok hT hd (by simp)), run_underlying (tdOf_ok hT he (by simp)), markStringish, hsh]
      | some x =>
        refine ⟨_, w.freeze ⟨b, x.2, none⟩ 1, G, ?_, .refl G, hI.mark ht.2 x.2, hr⟩
        simp [convert, run_underlying (tdOf_ok hT hs (by simp)), run_underlying (tdOf_ok hT hd (by simp)), run_underlying (tdOf_ok hT he (by simp)), markStringish, hsh]
  · cases h

def alen (Ty : TypeId → Option TI) (T : TypeId) (x : AV) : Option AV :=
  match tdOf Ty T, x with
  | .str, .str s => some (.int .i64 s.size)
  | .slice _, .sl _ _ es => some (.int .i64 es.length)
  | .slice _, .nils => some (.int .i64 0)
  | .slice _, .msl _ _ len => some (.int .i64 len)
  | .arr n _, _ => some (.int .i64 n)
  | _, _ => none
theorem alen_sound (hT : TyOk P Ty) {T : TypeId} {ts : List TypeId} {ty : TypeId} {x : AV} {vx : Value} (hx : Rel G vx x) {a : AV} (h : alen Ty T x = some a) : ∃ v, (Builtin.len_ (T :: ts).toArray ty #[vx]).run P w = .ok v w ∧ Rel G v a := by
  unfold alen at h
  split at h
  · rename_i s hd
    simp at h; subst h; cases hx
    exact ⟨_, by simp [Builtin.len_, run_underlying (tdOf_ok hT hd (by simp)), goInt], .int _ _⟩
  · rename_i e t sz es hd
    simp at h; subst h
    obtain ⟨A, c, news, hR⟩ := hx.row
    rw [hR.val]
    exact ⟨_, by simp [Builtin.len_, run_underlying (tdOf_ok hT hd (by simp)), goInt], .int _ _⟩
  · rename_i e hd
    simp at h; subst h; cases hx
    exact ⟨_, by simp [Builtin.len_, run_underlying (tdOf_ok hT hd (by simp)), goInt], .int _ _⟩
  · rename_i e id off len hd
    simp at h; subst h; cases hx
    exact ⟨_, by simp [Builtin.len_, run_underlying (tdOf_ok hT hd (by simp)), goInt], .int _ _⟩
  · rename_i n e hd
    simp at h; subst h
    exact ⟨_, by simp [Builtin.len_, run_underlying (tdOf_ok hT hd (by simp)), goInt], .int _ _⟩
  · cases h

def aarrAt (Ty : TypeId → Option TI) (T : TypeId) (x : AV) : Option AV :=
  match tdOf Ty T, x with
  | .arr n e, .sl _ sz es => if 0 < n ∧ n ≤ es.length ∧ sz = szOf Ty e then some (.fptr (flat (es.take n)) 0) else none
  | _, _ => none
theorem aarrAt_sound (hT : TyOk P Ty) {T : TypeId} {x : AV} {vx : Value} (hx : Rel G vx x) {a : AV} (h : aarrAt Ty T x = some a) : ∃ v, (Instr.arrayAt T vx).run P w = .ok v w ∧ Rel G v a := by
  unfold aarrAt at h
  split at h
  case h_2 => cases h
  rename_i n e t sz es hd
  split at h
  case isFalse => cases h
  rename_i hc
  obtain ⟨c1, c2, rfl⟩ := hc
  simp at h; subst h
  obtain ⟨A, c, news, hR⟩ := hx.row
  obtain ⟨b, o, rfl, hf⟩ := hR.at_ (by omega)
  rw [hR.val]
  have hlt : ¬ es.length < n := by omega
  refine ⟨.pointer (some ⟨b, o + 0, none⟩), by simp [Instr.arrayAt, run_underlying (tdOf_ok hT hd (by simp)), hlt], ?_⟩
  have hpre : ∀ (j : Nat) (a : AV), (flat (es.take n))[j]? = some a → (flat es)[j]? = some a := fun j a ha => by
    have : flat es = flat (es.take n) ++ flat (es.drop n) := by rw [← flat_append, List.take_append_drop]
    rw [this, List.getElem?_append_left (List.getElem?_eq_some_iff.1 ha).1]
    exact ha
  refine .fptr b o 0 _ (fun j => (news[j]?).getD undef) (fun j a ha => ?_) (fun j a ha => ?_)
  · obtain ⟨u, hu, _⟩ := hR.rel.get (hpre j a ha)
    rw [hu]; exact hf j u hu
  · obtain ⟨u, hu, hru⟩ := hR.rel.get (hpre j a ha)
    rw [hu]; exact hru
end
section
variable {P : Program} {Ty : TypeId → Option TI} {w0 : World} {G : Ghost} {w : World} {σ : St}

def anil : AV → Option AV
  | .ref id off => some (.ref id off)
  | .fptr x off => some (.fptr x off)
  | .fn (.func f) a b => some (.fn (.func f) a b)
  | _ => none
def amkI (Ty : TypeId → Option TI) (T : TypeId) (x : AV) : Option AV :=
  match tdOf Ty T with
  | .other => none
  | .iface => none
  | _ => some (.iface T x)
def aext (x : AV) (i : Nat) : Option AV :=
  match x with
  | .tup vs => vs[i]?
  | _ => none
def amm (mx : Bool) : AV → AV → Option AV
  | .int k x, .int _ y => some (.int k (if mx then (if y > x then y else x) else (if y < x then y else x)))
  | _, _ => none
def pairO (a : Option AV) (σ : St) : Option (AV × St) := match a with | some a => some (a, σ) | none => none
def apick (c a b : AV) : Option AV := match c with | .bool true => some a | .bool false => some b | _ => none
def intsOf (k : IntKind) : List AV → Option (List Int)
  | [] => some []
  | .int k' n :: r => if k' = k then (match intsOf k r with | some l => some (n :: l) | none => none) else none
  | _ :: _ => none
theorem intsOf_rel {k : IntKind} : ∀ {aas : List AV} {l : List Int} {vs : List Value}, RelL G vs aas → intsOf k aas = some l → vs = l.map (Value.int k)
  | [], l, vs, hr, h => by
    simp only [intsOf, Option.some.injEq] at h
    subst h
    have := hr.len
    cases vs with
    | nil => rfl
    | cons => simp at this
  | a :: aas, l, vs, hr, h => by
    cases vs with
    | nil => have := hr.len; simp at this
    | cons v vs =>
      have h0 := hr.at_ 0 v a rfl rfl
      have ht : RelL G vs aas := ⟨by have := hr.len; simpa using this, fun i v a h1 h2 => hr.at_ (i + 1) v a (by simpa using h1) (by simpa using h2)⟩
      cases a with
      | int k' n =>
        simp only [intsOf] at h
        split at h
        case isFalse => cases h
        rename_i hk
        subst hk
        split at h
        case h_2 => cases h
        rename_i l' hl
        cases h
        cases h0
        rw [intsOf_rel ht hl]
        rfl
      | _ => simp [intsOf] at h
def aeqAgg (Ty : TypeId → Option TI) (op : BinOp) (t : TypeId) (a b : List AV) : Option AV :=
  match tdOf Ty t with
  | .arr n e => match tdOf Ty e with
    | .int k => if szOf Ty e = 1 then (match intsOf k a, intsOf k b with | some l, some m => if l.length = n ∧ m.length = n then aeq op (decide (l = m)) else none | _, _ => none) else none
    | _ => none
  | _ => none
def abin' (Ty : TypeId → Option TI) (op : BinOp) (t : TypeId) (ox oy : Operand) (x y : AV) : Option AV :=
  match x, y with
  | .agg a, .agg b => aeqAgg Ty op t a b
  | x, y => abin Ty op t ox oy x y
theorem eqItems_ints {e : TypeId} {k k' : IntKind} (hu : P.underlying e = some (.int k')) (d : Nat) (l m : List Int) (hl : l.length = m.length) : ∀ (is : List Nat), (∀ j ∈ is, j < l.length) →
    (Op.eqItems (d + 1) e 1 (l.map (Value.int k)).toArray (m.map (Value.int k)).toArray is).run P w = .ok (decide (∀ j ∈ is, l[j]? = m[j]?)) w
  | [], _ => by simp [Op.eqItems]
  | j :: is, hj => by
    have h0 := hj j (by simp)
    have p (l : List Int) (h0 : j < l.length) : (part e (l.map (Value.int k)).toArray (j * 1)).run P w = .ok (.int k (l.getD j 0)) w := by
      simp [part, isAgg, run_underlying hu, h0, List.getD_eq_getElem?_getD]
    simp only [Op.eqItems, Sem.run_bind, p l h0, p m (by omega), Result.andThen_ok, run_equalIn_int w d e k k' _ _ hu]
    have e1 : l[j]? = some (l.getD j 0) := by simp [List.getD_eq_getElem?_getD, h0]
    have e2 : m[j]? = some (m.getD j 0) := by simp [List.getD_eq_getElem?_getD, show j < m.length by omega]
    by_cases he : l.getD j 0 = m.getD j 0
    · simp only [he, beq_self_eq_true, Bool.not_true, Bool.false_eq_true, if_false]
      rw [eqItems_ints hu d l m hl is (fun j h => hj j (by simp [h]))]
      congr 1
      simp only [List.mem_cons, forall_eq_or_imp, e1, e2, he, true_and]
    · have : (l.getD j 0 == m.getD j 0) = false := by simpa using he
      simp only [this, Bool.not_false, if_true, Sem.run_pure]
      congr 1
      symm
      simp only [decide_eq_false_iff_not]
      intro h
      have := h j (by simp)
      rw [e1, e2] at this
      exact he (by simpa using this)
theorem abin'_sound (hT : TyOk P Ty) (op : BinOp) (t : TypeId) (ox oy : Operand) {x y : AV} {vx vy : Value} (hx : Rel G vx x) (hy : Rel G vy y) {a : AV} (h : abin' Ty op t ox oy x y = some a) :
    ∃ v, ((do eqGuard op t ox oy vx vy; binOp op t vx vy : Sem Value)).run P w = .ok v w ∧ Rel G v a := by
  unfold abin' at h
  split at h
  case h_2 => exact abin_sound hT op t ox oy hx hy h
  rename_i ca cb
  unfold aeqAgg at h
  split at h
  case h_2 => cases h
  rename_i n e hd
  split at h
  case h_2 => cases h
  rename_i k he
  split at h
  case isFalse => cases h
  rename_i hs
  split at h
  case h_2 => cases h
  rename_i l m hl hm
  split at h
  case isFalse => cases h
  rename_i hlen
  have hu := tdOf_ok hT hd (by simp)
  have hue := tdOf_ok hT he (by simp)
  simp only [TdOk] at hu hue
  have hsome : (Ty e).isSome = true := by
    unfold tdOf at he
    split at he
    · rename_i h; rw [h]; rfl
    · cases he
  obtain ⟨ti, hi, hsz⟩ := szOf_info hT hsome
  cases hx with
  | agg vs _ hvl hv => 
    cases hy with
    | agg us _ hul hu' =>
      have e1 : vs.toList = l.map (Value.int k) := intsOf_rel ⟨by simpa using hvl, fun i v a h1 h2 => hv i v a (by simpa using h1) h2⟩ hl
      have e2 : us.toList = m.map (Value.int k) := intsOf_rel ⟨by simpa using hul, fun i v a h1 h2 => hu' i v a (by simpa using h1) h2⟩ hm
      have e1' : vs = (l.map (Value.int k)).toArray := by rw [← e1]
      have e2' : us = (m.map (Value.int k)).toArray := by rw [← e2]
      subst e1'
      subst e2'
      have heq : (Op.equalIn 10000 t (.agg (l.map (Value.int k)).toArray) (.agg (m.map (Value.int k)).toArray)).run P w = .ok (decide (l = m)) w := by
        rw [show (10000 : Nat) = 9998 + 1 + 1 from rfl, run_equalIn_array w (9998 + 1) _ _ hu hi, show P.cellsOf e = 1 by simp [Program.cellsOf, hi, hsz, hs], eqItems_ints (w := w) hue 9998 l m (by omega) _ (fun j hj => by simp at hj; omega)]
        congr 1
        rw [decide_eq_decide]
        constructor
        · intro h
          refine List.ext_getElem? fun i => ?_
          by_cases hin : i < n
          · exact h i (by simpa using hin)
          · rw [List.getElem?_eq_none (by omega), List.getElem?_eq_none (by omega)]
        · rintro rfl _ _; rfl
      have hg : (eqGuard op t ox oy (.agg (l.map (Value.int k)).toArray) (.agg (m.map (Value.int k)).toArray)).run P w = .ok () w := by
        refine run_eqGuard_agg w op t ox oy _ _ ?_
        have : P.depth = (2 * (P.types.size + Made.depth)) + 1 + 1 := rfl
        rw [this]
        simp [Program.eqGuardType, hu, hue]
      cases op <;> simp only [aeq, reduceCtorEq] at h
      case eql => cases h; exact ⟨.bool (decide (l = m)), by simp only [Sem.run_bind, hg, Result.andThen_ok, run_eql_struct, heq], .bool _⟩
      case neq => cases h; exact ⟨.bool (!decide (l = m)), by simp only [Sem.run_bind, hg, Result.andThen_ok, run_neq_struct, heq], .bool _⟩
def aop (Ty : TypeId → Option TI) (mu : Bool) (o : Oper) (ev : Operand → AV) (σ : St) : Option (AV × St) :=
  match o.op with
  | .move x => some (ev x, σ)
  | .assign x => some (ev x, σ)
  | .pick c a b => pairO (apick (ev c) (ev a) (ev b)) σ
  | .alloc T => aalloc Ty T σ
  | .box _ x => abox mu (ev x) σ
  | .build T ps => pairO (abuild Ty T (ps.toList.map fun p => (p.1, ev p.2))) σ
  | .buildSlice T n ps => pairO (abuildSlice Ty T n (ps.toList.map fun p => (p.1, ev p.2))) σ
  | .load T a => pairO (aload Ty T (ev a) σ) σ
  | .store T a x => match astore Ty T (ev a) (ev x) σ with | some σ' => some (.junk, σ') | none => none
  | .nilCheck x => pairO (anil (ev x)) σ
  | .binOp op T x y _ => pairO (abin' Ty op T x y (ev x) (ev y)) σ
  | .unOp op _ x => pairO (aun op (ev x)) σ
  | .convert s d x => match aconv Ty s d (ev x) with | some a => some (a, σ) | none => pairO (aconvM Ty s d (ev x)) σ
  | .sliceToArrayPointer T x => pairO (aarrAt Ty T (ev x)) σ
  | .makeInterface T x => pairO (amkI Ty T (ev x)) σ
  | .makeFunc f a b => some (.fn f (a.toList.map ev) (b.toList.map ev), σ)
  | .makeSlice T l c => amake Ty mu T (ev l) (ev c) σ
  | .slice T x lo hi none => pairO (aslice Ty T (ev x) (lo.map ev) (hi.map ev) σ) σ
  | .fieldAddr T x f => pairO (afieldAddr Ty T (ev x) f) σ
  | .field T x f => pairO (afield Ty T (ev x) f) σ
  | .indexAddr T x i => pairO (aindexAddr Ty T (ev x) (ev i)) σ
  | .index T x i => pairO (aindex Ty T (ev x) (ev i)) σ
  | .extract x i => pairO (aext (ev x) i) σ
  | .call c => match c.callee, c.args.toList, c.argTypes.toList with
    | .builtin .len, [x], T :: _ => pairO (alen Ty T (ev x)) σ
    | .builtin .append, [x, y], [T, U] => aappend Ty T U (ev x) (ev y) σ
    | .builtin .max, [x, y], _ => pairO (amm true (ev x) (ev y)) σ
    | .builtin .min, [x, y], _ => pairO (amm false (ev x) (ev y)) σ
    | _, _, _ => none
  | _ => none

def OpOk (P : Program) (w0 : World) (G : Ghost) (w : World) (o : Oper) (ρ : Operand → Value) (a : AV) (σ' : St) : Prop :=
  ∃ v w' G', G.Le G' ∧ Inv w0 G' w' σ' ∧ Rel G' v a ∧ ((execOp ρ o).run P w = .ok (.value v) w' ∨ ((execOp ρ o).run P w = .ok .skip w' ∧ v = undef))
theorem OpOk.value {o : Oper} {ρ : Operand → Value} {a : AV} {σ' : St} {v : Value} {w' : World} {G' : Ghost} (h : (execOp ρ o).run P w = .ok (.value v) w') (hG : G.Le G') (hI : Inv w0 G' w' σ') (hr : Rel G' v a) : OpOk P w0 G w o ρ a σ' :=
  ⟨v, w', G', hG, hI, hr, .inl h⟩
theorem relO_map {ρ : Operand → Value} {ev : Operand → AV} (h : ∀ x, Rel G (ρ x) (ev x)) : ∀ o : Option Operand, RelO G (o.map ρ) (o.map ev)
  | none => .none
  | some x => .some (h x)
theorem relArr {ρ : Operand → Value} {ev : Operand → AV} (h : ∀ x, Rel G (ρ x) (ev x)) (xs : Array Operand) : RelL G (xs.map ρ).toList (xs.toList.map ev) :=
  ⟨by simp, fun i v a h1 h2 => by
    rw [Array.toList_map, List.getElem?_map] at h1
    rw [List.getElem?_map] at h2
    cases hx : xs.toList[i]? with
    | none => rw [hx] at h1; cases h1
    | some x => rw [hx] at h1 h2; cases h1; cases h2; exact h x⟩
theorem pairO_some {x : Option AV} {a : AV} {σ' : St} (h : pairO x σ = some (a, σ')) : x = some a ∧ σ' = σ := by
  unfold pairO at h
  split at h
  · simp at h; exact ⟨by rw [h.1], h.2.symm⟩
  · cases h

theorem aop_sound (hT : TyOk P Ty) (hI : Inv w0 G w σ) {mu : Bool} {o : Oper} {ρ : Operand → Value} {ev : Operand → AV} (hρ : ∀ x, Rel G (ρ x) (ev x)) {a : AV} {σ' : St} (h : aop Ty mu o ev σ = some (a, σ')) : OpOk P w0 G w o ρ a σ' := by
  unfold aop at h
  split at h
  · rename_i x ho
    simp at h; obtain ⟨rfl, rfl⟩ := h
    exact .value (by simp [execOp, ho]) (.refl G) hI (hρ x)
  · rename_i x ho
    simp at h; obtain ⟨rfl, rfl⟩ := h
    exact .value (by simp [execOp, ho]) (.refl G) hI (hρ x)
  · rename_i c x y ho
    obtain ⟨h', rfl⟩ := pairO_some h; replace h := h'
    unfold apick at h
    have hc := hρ c
    split at h
    · rename_i he
      rw [he] at hc
      cases hcv : ρ c <;> rw [hcv] at hc <;> cases hc
      simp at h; subst h
      exact .value (by simp [execOp, ho, hcv, asBool]) (.refl G) hI (hρ x)
    · rename_i he
      rw [he] at hc
      cases hcv : ρ c <;> rw [hcv] at hc <;> cases hc
      simp at h; subst h
      exact .value (by simp [execOp, ho, hcv, asBool]) (.refl G) hI (hρ y)
    · cases h
  · rename_i T ho
    obtain ⟨v, w', G', h1, h2, h3, h4⟩ := aalloc_sound hT hI h (.tuple #[])
    exact .value (by simp [execOp, ho, h1]) h2 h3 h4
  · rename_i T x ho
    obtain ⟨v, w', G', h1, h2, h3, h4⟩ := abox_sound (P := P) (T := T) hI (hρ x) h
    exact .value (by simp [execOp, ho, h1]) h2 h3 h4
  · rename_i T ps ho
    obtain ⟨h', rfl⟩ := pairO_some h; replace h := h'
    have hp := partsRel_map hρ ps.toList
    obtain ⟨v, h1, h2⟩ := abuild_sound (w := w) hT (ps := ps.map fun p => (p.1, ρ p.2)) (by simpa using hp) h
    exact .value (by simp [execOp, ho, h1]) (.refl G) hI h2
  · rename_i T n ps ho
    obtain ⟨h', rfl⟩ := pairO_some h; replace h := h'
    have hp := partsRel_map hρ ps.toList
    obtain ⟨v, w', G', h1, h2, h3, h4⟩ := abuildSlice_sound hT hI (ps := ps.map fun p => (p.1, ρ p.2)) (by simpa using hp) h
    exact .value (by simp [execOp, ho, h1]) h2 h3 h4
  · rename_i T x ho
    obtain ⟨h', rfl⟩ := pairO_some h; replace h := h'
    obtain ⟨v, h1, h2⟩ := aload_sound hT hI (hρ x) h
    exact .value (by simp [execOp, ho, h1]) (.refl G) hI h2
  · rename_i T x y ho
    split at h
    case h_2 => cases h
    rename_i σ1 hs
    simp at h; obtain ⟨rfl, rfl⟩ := h
    obtain ⟨w', h1, h2⟩ := astore_sound hT hI (hρ x) (hρ y) hs
    exact ⟨undef, w', G, .refl G, h2, .junk _, .inr ⟨by simp [execOp, ho, h1], rfl⟩⟩
  · rename_i x ho
    obtain ⟨h', rfl⟩ := pairO_some h; replace h := h'
    have hx := hρ x
    unfold anil at h
    split at h
    · rename_i he
      simp at h; subst h
      rw [he] at hx
      cases hxv : ρ x <;> rw [hxv] at hx <;> cases hx
      rename_i b hl
      exact .value (by simp [execOp, ho, hxv]) (.refl G) hI (.ref _ _ b hl)
    · rename_i he
      simp at h; subst h
      rw [he] at hx
      cases hxv : ρ x <;> rw [hxv] at hx <;> cases hx
      rename_i hf hr
      exact .value (by simp [execOp, ho, hxv]) (.refl G) hI (.fptr _ _ _ _ _ hf hr)
    · rename_i he
      simp at h; subst h
      rw [he] at hx
      cases hxv : ρ x <;> rw [hxv] at hx <;> cases hx
      rename_i h1 h2 h3 h4
      exact .value (by simp [execOp, ho, hxv]) (.refl G) hI (.fn _ _ _ _ _ h1 h3 h2 h4)
    · cases h
  · rename_i op T x y U ho
    obtain ⟨h', rfl⟩ := pairO_some h; replace h := h'
    obtain ⟨v, h1, h2⟩ := abin'_sound (w := w) hT op T x y (hρ x) (hρ y) h
    refine .value (w' := w) ?_ (.refl G) hI h2
    simp only [execOp, ho]
    simp only [Sem.run_bind] at h1 ⊢
    rw [h1]; rfl
  · rename_i op T x ho
    obtain ⟨h', rfl⟩ := pairO_some h; replace h := h'
    obtain ⟨v, h1, h2⟩ := aun_sound (P := P) (w := w) op (hρ x) h
    exact .value (by simp [execOp, ho, h1]) (.refl G) hI h2
  · rename_i s d x ho
    split at h
    · rename_i a' ha
      simp at h; obtain ⟨rfl, rfl⟩ := h
      obtain ⟨v, h1, h2⟩ := aconv_sound (w := w) hT s d (hρ x) ha
      exact .value (by simp [execOp, ho, h1]) (.refl G) hI h2
    · obtain ⟨h', rfl⟩ := pairO_some h; replace h := h'
      obtain ⟨v, w', G', h1, h2, h3, h4⟩ := aconvM_sound hT hI (hρ x) h
      exact .value (by simp [execOp, ho, h1]) h2 h3 h4
  · rename_i T x ho
    obtain ⟨h', rfl⟩ := pairO_some h; replace h := h'
    obtain ⟨v, h1, h2⟩ := aarrAt_sound (w := w) hT (hρ x) h
    exact .value (by simp [execOp, ho, h1]) (.refl G) hI h2
  · rename_i T x ho
    obtain ⟨h', rfl⟩ := pairO_some h; replace h := h'
    unfold amkI at h
    split at h
    · cases h
    · cases h
    · rename_i hn1 hn2
      simp at h; subst h
      refine .value (w' := w) (v := .iface T (ρ x)) ?_ (.refl G) hI (.iface _ _ _ (hρ x))
      have hd : TdOk P T (tdOf Ty T) := tdOf_ok hT rfl hn1
      cases hd' : tdOf Ty T <;> rw [hd'] at hd <;> simp only [TdOk] at hd
      case struct fs => obtain ⟨f, hu, _⟩ := hd; simp [execOp, ho, Instr.makeInterface, run_underlying hu]
      case iface => exact absurd hd' hn2
      case func => obtain ⟨p, r, v, hu⟩ := hd; simp [execOp, ho, Instr.makeInterface, run_underlying hu]
      all_goals simp [execOp, ho, Instr.makeInterface, run_underlying hd]
  · rename_i f x y ho
    simp at h; obtain ⟨rfl, rfl⟩ := h
    have h1 := relArr hρ x
    have h2 := relArr hρ y
    refine .value (w' := w) (v := .func f (x.map ρ) (y.map ρ)) (by simp [execOp, ho, Instr.makeFunc]) (.refl G) hI ?_
    exact .fn f _ _ _ _ (by simp) (by simp) (fun i v a e1 e2 => h1.at_ i v a (by simpa using e1) (by simpa using e2)) (fun i v a e1 e2 => h2.at_ i v a (by simpa using e1) (by simpa using e2))
  · rename_i T x y ho
    obtain ⟨v, w', G', h1, h2, h3, h4⟩ := amake_sound hT hI (hρ x) (hρ y) h
    exact .value (by simp [execOp, ho, h1]) h2 h3 h4
  · rename_i T x lo hi ho
    obtain ⟨h', rfl⟩ := pairO_some h; replace h := h'
    obtain ⟨v, h1, h2⟩ := aslice_sound (w := w) hT (hρ x) (relO_map hρ lo) (relO_map hρ hi) h
    exact .value (by simp [execOp, ho, h1]) (.refl G) hI h2
  · rename_i T x f ho
    obtain ⟨h', rfl⟩ := pairO_some h; replace h := h'
    obtain ⟨v, h1, h2⟩ := afieldAddr_sound (w := w) hT (hρ x) h
    exact .value (by simp [execOp, ho, h1]) (.refl G) hI h2
  · rename_i T x f ho
    obtain ⟨h', rfl⟩ := pairO_some h; replace h := h'
    obtain ⟨v, h1, h2⟩ := afield_sound (w := w) hT (hρ x) h
    exact .value (by simp [execOp, ho, h1]) (.refl G) hI h2
  · rename_i T x y ho
    obtain ⟨h', rfl⟩ := pairO_some h; replace h := h'
    obtain ⟨v, h1, h2⟩ := aindexAddr_sound (w := w) hT (hρ x) (hρ y) h
    exact .value (by simp [execOp, ho, h1]) (.refl G) hI h2
  · rename_i T x y ho
    obtain ⟨h', rfl⟩ := pairO_some h; replace h := h'
    obtain ⟨v, h1, h2⟩ := aindex_sound (w := w) hT (hρ x) (hρ y) h
    exact .value (by simp [execOp, ho, h1]) (.refl G) hI h2
  · rename_i x i ho
    obtain ⟨h', rfl⟩ := pairO_some h; replace h := h'
    have hx := hρ x
    unfold aext at h
    split at h
    case h_2 => cases h
    rename_i vs he
    rw [he] at hx
    cases hxv : ρ x <;> rw [hxv] at hx <;> cases hx
    rename_i us hl hr
    obtain ⟨u, hu⟩ : ∃ u, us[i]? = some u := ⟨_, Array.getElem?_eq_getElem (by rw [hl]; exact (List.getElem?_eq_some_iff.1 h).1)⟩
    exact .value (by simp [execOp, ho, hxv, Instr.extract, hu]) (.refl G) hI (hr i u a hu h)
  · rename_i c ho
    split at h
    · rename_i x T ts hc hargs hts
      obtain ⟨h', rfl⟩ := pairO_some h; replace h := h'
      obtain ⟨callee, args, argTypes⟩ := c
      simp only at hc hargs hts
      obtain ⟨v, h1, h2⟩ := alen_sound (w := w) (ts := ts) (ty := o.type) hT (hρ x) h
      have ha : args = #[x] := by cases args; simp at hargs; rw [hargs]
      have ht : argTypes = (T :: ts).toArray := by cases argTypes; simp at hts; rw [hts]; 
      subst hc; subst ha; subst ht
      exact .value (by simp [execOp, ho, resolve, invoke, builtin, h1]) (.refl G) hI h2
    · rename_i x y T U hc hargs hts
      obtain ⟨callee, args, argTypes⟩ := c
      simp only at hc hargs hts
      obtain ⟨v, w', G', h1, h2, h3, h4⟩ := aappend_sound hT hI T U o.type (hρ x) (hρ y) h
      have ha : args = #[x, y] := by cases args; simp at hargs; rw [hargs]
      have ht : argTypes = #[T, U] := by cases argTypes; simp at hts; rw [hts]
      subst hc; subst ha; subst ht
      exact .value (by simp [execOp, ho, resolve, invoke, builtin, h1]) h2 h3 h4
    · rename_i x y hc hargs
      obtain ⟨h', rfl⟩ := pairO_some h; replace h := h'
      obtain ⟨callee, args, argTypes⟩ := c
      simp only at hc hargs
      have hx := hρ x
      have hy := hρ y
      have ha : args = #[x, y] := by cases args; simp at hargs; rw [hargs]
      subst hc; subst ha
      unfold amm at h
      split at h
      · rename_i k n k' m e1 e2
        rw [e1] at hx; rw [e2] at hy
        cases hxv : ρ x <;> rw [hxv] at hx <;> cases hx
        cases hyv : ρ y <;> rw [hyv] at hy <;> cases hy
        cases h
        exact .value (by simp [execOp, ho, resolve, invoke, builtin, Builtin.max_, Builtin.max2, hxv, hyv]) (.refl G) hI (.int _ _)
      · cases h
    · rename_i x y hc hargs
      obtain ⟨h', rfl⟩ := pairO_some h; replace h := h'
      obtain ⟨callee, args, argTypes⟩ := c
      simp only at hc hargs
      have hx := hρ x
      have hy := hρ y
      have ha : args = #[x, y] := by cases args; simp at hargs; rw [hargs]
      subst hc; subst ha
      unfold amm at h
      split at h
      · rename_i k n k' m e1 e2
        rw [e1] at hx; rw [e2] at hy
        cases hxv : ρ x <;> rw [hxv] at hx <;> cases hx
        cases hyv : ρ y <;> rw [hyv] at hy <;> cases hy
        cases h
        exact .value (by simp [execOp, ho, resolve, invoke, builtin, Builtin.min_, Builtin.min2, hxv, hyv]) (.refl G) hI (.int _ _)
      · cases h
    · cases h
  · cases h

theorem aop_congr {mu : Bool} {o : Oper} {ev ev' : Operand → AV} (h : ∀ x ∈ o.op.operands, ev x = ev' x) : aop Ty mu o ev σ = aop Ty mu o ev' σ := by
  unfold aop
  cases ho : o.op <;> rw [ho] at h <;> simp only [Op.operands] at h <;> (try simp only [])
  case move x => rw [h x (by simp)]
  case assign x => rw [h x (by simp)]
  case pick c x y => rw [h c (by simp), h x (by simp), h y (by simp)]
  case box T x => rw [h x (by simp)]
  case build T ps =>
    congr 2
    exact List.map_congr_left fun p hp => by rw [h p.2 (by simp; exact ⟨p.1, by simpa using hp⟩)]
  case buildSlice T n ps =>
    congr 2
    exact List.map_congr_left fun p hp => by rw [h p.2 (by simp; exact ⟨p.1, by simpa using hp⟩)]
  case load T x => rw [h x (by simp)]
  case store T x y => rw [h x (by simp), h y (by simp)]
  case nilCheck x => rw [h x (by simp)]
  case binOp op T x y U => rw [h x (by simp), h y (by simp)]
  case unOp op T x => rw [h x (by simp)]
  case convert s d x => rw [h x (by simp)]
  case sliceToArrayPointer T x => rw [h x (by simp)]
  case makeInterface T x => rw [h x (by simp)]
  case makeFunc f x y =>
    rw [List.map_congr_left fun z hz => h z (by simp; exact .inl (by simpa using hz)), List.map_congr_left fun z hz => h z (by simp; exact .inr (by simpa using hz))]
  case makeSlice T x y => rw [h x (by simp), h y (by simp)]
  case slice T x lo hi mx =>
    cases mx with
    | some _ => rfl
    | none =>
      simp only []
      rw [h x (by simp)]
      have e1 : lo.map ev = lo.map ev' := by cases lo with | none => rfl | some y => simp [h y (by simp)]
      have e2 : hi.map ev = hi.map ev' := by cases hi with | none => rfl | some y => simp [h y (by simp)]
      rw [e1, e2]
  case fieldAddr T x f => rw [h x (by simp)]
  case field T x f => rw [h x (by simp)]
  case indexAddr T x y => rw [h x (by simp), h y (by simp)]
  case index T x y => rw [h x (by simp), h y (by simp)]
  case extract x i => rw [h x (by simp)]
  case call c =>
    have hm : ∀ x ∈ c.args.toList, ev x = ev' x := fun x hx => h x (by
      unfold Call.operands
      exact Array.mem_append.2 (.inr (Array.mem_toList_iff.1 hx)))
    split
    · rename_i x T ts hc ha ht
      rw [hm x (by rw [ha]; exact List.mem_cons_self)]
    · rename_i x y T U hc ha ht
      rw [hm x (by rw [ha]; exact List.mem_cons_self), hm y (by rw [ha]; exact List.mem_cons_of_mem _ List.mem_cons_self)]
    · rename_i x y hc ha
      rw [hm x (by rw [ha]; exact List.mem_cons_self), hm y (by rw [ha]; exact List.mem_cons_of_mem _ List.mem_cons_self)]
    · rename_i x y hc ha
      rw [hm x (by rw [ha]; exact List.mem_cons_self), hm y (by rw [ha]; exact List.mem_cons_of_mem _ List.mem_cons_self)]
    · rfl
end

def FnOk (P : Program) (g : FuncId) : Prop := ∃ fn, P.funcs[g]? = some fn ∧ fn.name ≠ "runtime.NumGoroutine" ∧ fn.body.isSome = true
def ACall (P : Program) (g : FuncId) (args : List AV) (σ : St) (K : AV → St → Prop) : Prop :=
  FnOk P g ∧ ∀ w0 G w (vs : Array Value), Inv w0 G w σ → RelL G vs.toList args →
    Calls P g vs w fun e w' => ∃ v a σ' G', e = .returned v ∧ G.Le G' ∧ Inv w0 G' w' σ' ∧ Rel G' v a ∧ K a σ'
theorem ACall.mono {P : Program} {g : FuncId} {args : List AV} {σ : St} {K K' : AV → St → Prop} (h : ACall P g args σ K) (hk : ∀ a σ', K a σ' → K' a σ') : ACall P g args σ K' :=
  ⟨h.1, fun w0 G w vs hI hr => (h.2 w0 G w vs hI hr).mono fun _ _ ⟨v, a, σ', G', h1, h2, h3, h4, h5⟩ => ⟨v, a, σ', G', h1, h2, h3, h4, hk _ _ h5⟩⟩

structure Sim (w0 : World) (G : Ghost) (n : Nat) (a : Act) (w : World) (fr : Nat → AV) (σ : St) : Prop where
  inv : Inv w0 G w σ
  frm : FrameRel G a.tmps fr
  size : a.tmps.size = n
  defers : a.defers = []
def putO (fr : Nat → AV) (d : Option Tmp) (a : AV) : Nat → AV := match d with | some t => upd fr t a | none => fr
def dstOk (n : Nat) (d : Option Tmp) : Prop := match d with | some t => t < n | none => True
theorem Sim.put {w0 : World} {G : Ghost} {n : Nat} {a : Act} {w : World} {fr : Nat → AV} {σ : St} (h : Sim w0 G n a w fr σ) {G' : Ghost} (hG : G.Le G') {w' : World} {σ' : St} (hI : Inv w0 G' w' σ') {d : Option Tmp} (hd : dstOk n d) {v : Value} {x : AV} (hv : Rel G' v x) :
    Sim w0 G' n (a.put d v) w' (putO fr d x) σ' := by
  cases d with
  | none => exact ⟨hI, h.frm.mono hG, h.size, h.defers⟩
  | some t => exact ⟨hI, (h.frm.mono hG).put (by rw [h.size]; exact hd) hv, by simp [Act.put, h.size], h.defers⟩

def callOf (o : Oper) : Option (Operand × List Operand) :=
  match o.op with
  | .call c => match c.callee with
    | .value f => some (f, c.args.toList)
    | _ => none
  | _ => none

def Wk (a b : AV) : Prop := ∀ G v, Rel G v a → Rel G v b
theorem Wk.refl (a : AV) : Wk a a := fun _ _ h => h
theorem Wk.of_eq {a b : AV} (h : a = b) : Wk a b := h ▸ Wk.refl a
theorem Wk.junk (a : AV) : Wk a .junk := fun _ v _ => .junk v
def WkF (f g : Nat → AV) : Prop := ∀ t, Wk (f t) (g t)
theorem WkF.refl (f : Nat → AV) : WkF f f := fun t => Wk.refl _
theorem FrameRel.wk {G : Ghost} {tmps : Array Value} {f g : Nat → AV} (h : FrameRel G tmps f) (k : WkF f g) : FrameRel G tmps g := fun t => k t G _ (h t)
inductive WkL : List AV → List AV → Prop where
  | nil : WkL [] []
  | cons {a b : AV} {aas bs : List AV} (h : Wk a b) (t : WkL aas bs) : WkL (a :: aas) (b :: bs)
theorem WkL.refl : ∀ aas, WkL aas aas
  | [] => .nil
  | a :: aas => .cons (.refl a) (WkL.refl aas)
theorem WkL.rel {G : Ghost} : ∀ {aas bs : List AV} (_ : WkL aas bs) {vs : List Value}, RelL G vs aas → RelL G vs bs
  | _, _, .nil, vs, h => h
  | _, _, .cons (a := a) h t, vs, hr => by
    cases vs with
    | nil => have := hr.len; simp at this
    | cons v vs =>
      exact (RelL.cons (h G v (hr.at_ 0 v a rfl rfl)) (t.rel ⟨by simpa using hr.len, fun i u b e1 e2 => hr.at_ (i + 1) u b (by simpa using e1) (by simpa using e2)⟩))
theorem ACall.wk {P : Program} {g : FuncId} {args bs : List AV} {σ : St} {K : AV → St → Prop} (h : ACall P g bs σ K) (k : WkL args bs) : ACall P g args σ K :=
  ⟨h.1, fun w0 G w vs hI hr => h.2 w0 G w vs hI (k.rel hr)⟩

section
variable (P : Program)
def OpS (o : Oper) (fr : Nat → AV) (σ : St) (K : AV → St → Prop) : Prop :=
  ∀ (w0 : World) (G : Ghost) (act : Act) (w : World) (Q : Exit → Act → World → Prop) (K' : Act → World → Prop), Inv w0 G w σ → (∀ x ∈ o.op.operands, Rel G (act.eval x) (aeval fr x)) →
    (∀ v a σ' w' G', K a σ' → G.Le G' → Inv w0 G' w' σ' → Rel G' v a → K' (act.put o.dst v) w') → o.wp P act w K' Q
def guardOf (ops : Array Oper) (o : Oper) (fr : Nat → AV) : Option Bool :=
  match o.guard with
  | none => some true
  | some (j, want) => match (ops[j]?).bind (·.dst) with
    | some t => match fr t with | .bool b => some (b == want) | .tup [] => some false | _ => none
    | none => none
def wpo (n : Nat) (ops : Array Oper) (K : (Nat → AV) → St → Prop) : List Oper → (Nat → AV) → St → Prop
  | [], fr, σ => K fr σ
  | o :: rest, fr, σ => dstOk n o.dst ∧ match guardOf ops o fr with
    | some true => OpS P o fr σ (fun a σ' => wpo n ops K rest (putO fr o.dst a) σ')
    | some false => wpo n ops K rest (putO fr o.dst (.tup [])) σ
    | none => False
end

section
variable {P : Program} {Ty : TypeId → Option TI} {w0 : World} {G : Ghost} {n : Nat} {a : Act} {w : World} {fr : Nat → AV} {σ : St}
theorem OpS.mono {o : Oper} {K K2 : AV → St → Prop} (h : OpS P o fr σ K) (hk : ∀ a σ', K a σ' → K2 a σ') : OpS P o fr σ K2 :=
  fun w0 G act w Q K' hI hr hK => h w0 G act w Q K' hI hr fun v a σ' w' G' k => hK v a σ' w' G' (hk _ _ k)
theorem call_run {o : Oper} {f : Operand} {xs : List Operand} (hc : callOf o = some (f, xs)) {ρ : Operand → Value} {g : FuncId} {fs cs : Array Value} (hf : ρ f = .func (.func g) fs cs) (hg : FnOk P g) (w : World) :
    (execOp ρ o).run P w = .ok (.enter g (fs ++ (xs.map ρ).toArray ++ cs)) w := by
  unfold callOf at hc
  split at hc
  case h_2 => cases hc
  rename_i c ho
  split at hc
  case h_2 => cases hc
  rename_i f' hcal
  simp at hc
  obtain ⟨rfl, rfl⟩ := hc
  obtain ⟨fn, h1, h2, h3⟩ := hg
  have hb : ¬ fn.body = none := fun hb => by rw [hb] at h3; cases h3
  have hargs : (c.args.toList.map ρ).toArray = c.args.map ρ := by apply Array.ext'; simp
  rw [hargs]
  simp [execOp, ho, resolve, hcal, Deferred.ofValue, hf, invoke, callFunc, program, Sem.run, h1, h2, hb]
theorem rel_undef (G : Ghost) : Rel G undef (.tup []) := .tup #[] [] rfl (fun i v a h => by simp at h)
theorem wanted_of {ops : Array Oper} {o : Oper} (hF : FrameRel G a.tmps fr) (hs : ∀ t, dstOk n (some t) → t < a.tmps.size) {b : Bool} (h : guardOf ops o fr = some b) (hd : ∀ j want t, o.guard = some (j, want) → (ops[j]?).bind (·.dst) = some t → t < a.tmps.size) : Region.wanted o (yielded ops a.tmps) = b := by
  unfold guardOf at h
  unfold Region.wanted
  split at h
  · rename_i hg
    rw [hg]
    simp at h; subst h; rfl
  · rename_i j want hg
    rw [hg]
    split at h
    case h_2 => cases h
    rename_i t ht
    have hlt := hd j want t hg ht
    have hr := hF t
    have hu : a.tmps[t]? = some a.tmps[t] := Array.getElem?_eq_getElem hlt
    rw [Array.getD_eq_getD_getElem?, hu] at hr
    simp only [Option.getD_some] at hr
    generalize a.tmps[t] = u at hr hu
    split at h
    case h_3 => cases h
    · rename_i b' hb
      simp at h; subst h
      rw [hb] at hr
      cases hr
      simp only [yielded, ht, Option.bind_some, hu]
      cases b' <;> cases want <;> rfl
    · rename_i hb
      simp at h; subst h
      rw [hb] at hr
      cases hr with | tup vs _ hl _ =>
      simp only [yielded, ht, Option.bind_some, hu]
      cases want <;> rfl


open Classical in
theorem OpS.of_aop (hT : TyOk P Ty) {mu : Bool} {o : Oper} (hc : callOf o = none) (ev : Operand → AV) (hev : ∀ x ∈ o.op.operands, Wk (aeval fr x) (ev x)) {a b : AV} {σ' : St} (h : aop Ty mu o ev σ = some (a, σ')) (hw : Wk a b) : OpS P o fr σ (fun a' σ'' => a' = b ∧ σ'' = σ') := by
  intro w0 G act w Q K' hI hr hK
  have h' : aop Ty mu o (fun x => if x ∈ o.op.operands then ev x else .junk) σ = some (a, σ') := by
    rw [← h]
    exact aop_congr (fun x hx => by rw [if_pos hx])
  obtain ⟨v, w', G', k1, k2, k3, k4⟩ := aop_sound (P := P) hT hI (ρ := act.eval) (fun y => by
    by_cases hy : y ∈ o.op.operands
    · rw [if_pos hy]; exact hev y hy G _ (hr y hy)
    · rw [if_neg hy]; exact .junk _) h'
  unfold Oper.wp
  rcases k4 with k4 | ⟨k4, rfl⟩ <;> rw [k4] <;> exact hK _ b σ' w' G' ⟨rfl, rfl⟩ k1 k2 (hw G' _ k3)
theorem OpS.of_call {o : Oper} {f : Operand} {xs : List Operand} {g : FuncId} {first cap args : List AV} {K : AV → St → Prop} (hc : callOf o = some (f, xs)) (hf : aeval fr f = .fn (.func g) first cap) (hargs : WkL (first ++ xs.map (aeval fr) ++ cap) args) (hcall : ACall P g args σ K) : OpS P o fr σ K := by
  have hmem : f ∈ o.op.operands ∧ ∀ y ∈ xs, y ∈ o.op.operands := by
    unfold callOf at hc
    split at hc
    case h_2 => cases hc
    rename_i c ho
    split at hc
    case h_2 => cases hc
    rename_i f' hcal
    simp at hc
    obtain ⟨rfl, rfl⟩ := hc
    rw [ho]
    simp only [Op.operands, Call.operands, hcal]
    exact ⟨by simp, fun y hy => Array.mem_append.2 (.inr (Array.mem_toList_iff.1 hy))⟩
  intro w0 G act w Q K' hI hr hK
  have h := hcall.wk hargs
  have hrf := hr f hmem.1
  rw [hf] at hrf
  cases hfv : act.eval f <;> rw [hfv] at hrf <;> cases hrf
  rename_i fs cs h1 h3 h2 h4
  unfold Oper.wp
  rw [call_run hc hfv h.1 w]
  simp only [Oper.upon]
  have hl1 : RelL G fs.toList first := ⟨by simpa using h1, fun i v a e1 e2 => h3 i v a (by simpa using e1) e2⟩
  have hl2 : RelL G cs.toList cap := ⟨by simpa using h2, fun i v a e1 e2 => h4 i v a (by simpa using e1) e2⟩
  have hl3 : RelL G (xs.map act.eval) (xs.map (aeval fr)) := ⟨by simp, fun i v x e1 e2 => by
    rw [List.getElem?_map] at e1 e2
    cases hx : xs[i]? with
    | none => rw [hx] at e1; cases e1
    | some y => rw [hx] at e1 e2; cases e1; cases e2; exact hr y (hmem.2 y (List.mem_of_getElem? hx))⟩
  refine (h.2 w0 G w _ hI (by simpa using (hl1.append hl3).append hl2)).mono ?_
  rintro e w' ⟨v, x, σ', G', rfl, k1, k2, k3, k4⟩
  exact hK v x σ' w' G' k4 k1 k2 k3

theorem wpo_sound {ops : Array Oper} {Q : Exit → Act → World → Prop} {K : (Nat → AV) → St → Prop} (hdst : ∀ (j : Nat) (o : Oper), ops[j]? = some o → dstOk n o.dst) :
    ∀ (k i : Nat) (G : Ghost) (a : Act) (w : World) (fr : Nat → AV) (σ : St), i + k = ops.size → Sim w0 G n a w fr σ → wpo P n ops K (ops.toList.drop i) fr σ →
      (∀ G' a' w' fr' σ', G.Le G' → Sim w0 G' n a' w' fr' σ' → K fr' σ' → Q .normal a' w') → wpOps P ops Q (List.range' i k) a w
  | 0, i, G, a, w, fr, σ, hi, hS, h, hQ => by
    rw [List.drop_of_length_le (by simp; omega)] at h
    exact hQ G a w fr σ (.refl G) hS h
  | k + 1, i, G, a, w, fr, σ, hi, hS, h, hQ => by
    have hlt : i < ops.size := by omega
    have ho : ops[i]? = some ops[i] := Array.getElem?_eq_getElem hlt
    rw [List.drop_eq_getElem_cons (by simpa using hlt)] at h
    simp only [Array.getElem_toList] at h
    obtain ⟨hd, h⟩ := h
    rw [List.range'_succ]
    simp only [wpOps, ho]
    have hgd : ∀ (b : Bool), guardOf ops ops[i] fr = some b → Region.wanted ops[i] (yielded ops a.tmps) = b := fun b hb =>
      wanted_of (n := n) hS.frm (fun t ht => by rw [hS.size]; exact ht) hb (fun j want t _ ht => by
        cases hj : ops[j]? with
        | none => rw [hj] at ht; cases ht
        | some oj =>
          rw [hj] at ht
          have := hdst j oj hj
          simp only [Option.bind_some] at ht
          rw [ht] at this
          rw [hS.size]; exact this)
    split at h
    · rename_i hg
      rw [if_pos (hgd true hg)]
      refine .inl (h w0 G a w Q _ hS.inv (fun x _ => rel_aeval hS.frm x) fun v x σ' w' G' hk hG hI hr => ?_)
      exact wpo_sound hdst k (i + 1) G' _ w' _ σ' (by omega) (hS.put hG hI hd hr) hk (fun G2 a2 w2 fr2 σ2 h1 h2 h3 => hQ G2 a2 w2 fr2 σ2 (hG.trans h1) h2 h3)
    · rename_i hg
      rw [if_neg (by rw [hgd false hg]; simp)]
      exact wpo_sound hdst k (i + 1) G _ w _ σ (by omega) (hS.put (.refl G) hS.inv hd (rel_undef _)) h hQ
    · exact h.elim
end
end Go.Va
