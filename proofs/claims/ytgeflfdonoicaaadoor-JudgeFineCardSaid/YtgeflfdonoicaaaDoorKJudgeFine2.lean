/- Where nothing is wrong each hit is a write ahead of it, of that key, and value, and is not older than what its node served of the key. (part 2 of 5) -/
import Derived.Test.YtgeflfdonoicaaaDoorKJudgeFine1
import Derived.Carry
import Derived.ChangeArms
import Derived.ChangeOld
import Derived.Laws.BitsLemmas
import Derived.Laws.RangeString
import Derived.Lib.AppendZeros
import Derived.Scope
import Derived.Stop.Asserts
import Derived.WideShapes
namespace Go.Va
open Go Go.RowKit
set_option linter.unusedVariables false
set_option linter.unusedSimpArgs false

def cutTok (κ : Nat → Option Nat) : Tok → Tok
  | .own t => match κ t with
    | some u => .own u
    | none => .no
  | k => k
mutual
def cutAV (ρ κ : Nat → Option Nat) : AV → AV
  | .sl t sz es => .sl (cutTok κ t) sz (cutL ρ κ es)
  | .agg cs => .agg (cutL ρ κ cs)
  | .tup vs => .tup (cutL ρ κ vs)
  | .fptr x o => .fptr (cutL ρ κ x) o
  | .iface t v => .iface t (cutAV ρ κ v)
  | .fn f a b => .fn f (cutL ρ κ a) (cutL ρ κ b)
  | .ref i o => match ρ i with
    | some j => .ref j o
    | none => .junk
  | .msl i o n => match ρ i with
    | some j => .msl j o n
    | none => .junk
  | .vec i z n => if n = 0 then .vec i z n else match ρ i with
    | some j => .vec j z n
    | none => .junk
  | .vc i z o n c => match ρ i with
    | some j => .vc j z o n c
    | none => .junk
  | .junk => .junk
  | .int k n => .int k n
  | .bool b => .bool b
  | .str s => .str s
  | .nilp => .nilp
  | .nils => .nils
  | .nilm => .nilm
  | .nilf => .nilf
  | .nili => .nili
  | .spc i => match ρ i with
    | some j => .spc j
    | none => .junk
  | .mapr i => match ρ i with
    | some j => .mapr j
    | none => .junk
  | .itc s p => .itc s p
  | .mpc ks vs => .mpc (cutL ρ κ ks) (cutL ρ κ vs)
def cutL (ρ κ : Nat → Option Nat) : List AV → List AV
  | [] => []
  | a :: l => cutAV ρ κ a :: cutL ρ κ l
end
theorem cutL_map (ρ κ : Nat → Option Nat) : ∀ l, cutL ρ κ l = l.map (cutAV ρ κ)
  | [] => rfl
  | a :: l => by rw [cutL, cutL_map ρ κ l]; rfl
theorem cutAV_cells (ρ κ : Nat → Option Nat) (a : AV) (h : ∀ cs, a ≠ .agg cs) : (cutAV ρ κ a).cells = [cutAV ρ κ a] := by
  cases a <;> first | rfl | exact absurd rfl (h _) | (simp only [cutAV]; split <;> rfl) | (simp only [cutAV]; repeat' split) <;> rfl
theorem cutAV_len (ρ κ : Nat → Option Nat) (a : AV) : (cutAV ρ κ a).cells.length = a.cells.length := by
  cases a <;> first | rfl | (simp only [cutAV]; split <;> rfl) | (simp only [cutAV]; repeat' split) <;> rfl | skip
  simp [cutAV, AV.cells, cutL_map]
theorem cutAV_at {ρ κ : Nat → Option Nat} {a : AV} {j : Nat} {x : AV} (h : (cutAV ρ κ a).cells[j]? = some x) : ∃ y, a.cells[j]? = some y ∧ x = cutAV ρ κ y := by
  by_cases hagg : ∃ cs, a = .agg cs
  · obtain ⟨cs, rfl⟩ := hagg
    simp only [cutAV, AV.cells, cutL_map, List.getElem?_map, Option.map_eq_some_iff] at h ⊢
    obtain ⟨y, h1, h2⟩ := h
    exact ⟨y, h1, h2.symm⟩
  · have hn : ∀ cs, a ≠ .agg cs := fun cs he => hagg ⟨cs, he⟩
    rw [cutAV_cells ρ κ a hn] at h
    have hc : a.cells = [a] := by cases a <;> first | rfl | exact absurd rfl (hn _)
    cases j with
    | zero => simp at h; exact ⟨a, by rw [hc]; rfl, h.symm⟩
    | succ j => simp at h
def Inj (ρ : Nat → Option Nat) : Prop := ∀ i i' j, ρ i = some j → ρ i' = some j → i = i'
open Classical in
noncomputable def Ghost.ren (G : Ghost) (ρ κ : Nat → Option Nat) (n : Nat) : Ghost :=
  { fz := G.fz, loc := fun j => if h : ∃ i, ρ i = some j then G.loc (Classical.choose h) else none, tok := fun u => if h : ∃ t, κ t = some u then G.tok (Classical.choose h) else none, nt := n, lit := G.lit, bsz := fun j => if h : ∃ i, ρ i = some j then G.bsz (Classical.choose h) else 0 }
theorem Ghost.ren_loc {G : Ghost} {ρ κ : Nat → Option Nat} {n : Nat} (hi : Inj ρ) {i j : Nat} (h : ρ i = some j) : (G.ren ρ κ n).loc j = G.loc i := by
  have hx : ∃ i, ρ i = some j := ⟨i, h⟩
  simp only [Ghost.ren, dif_pos hx]
  rw [hi _ _ _ (Classical.choose_spec hx) h]
theorem Ghost.ren_bsz {G : Ghost} {ρ κ : Nat → Option Nat} {n : Nat} (hi : Inj ρ) {i j : Nat} (h : ρ i = some j) : (G.ren ρ κ n).bsz j = G.bsz i := by
  have hx : ∃ i, ρ i = some j := ⟨i, h⟩
  simp only [Ghost.ren, dif_pos hx]
  rw [hi _ _ _ (Classical.choose_spec hx) h]
theorem Ghost.ren_tok {G : Ghost} {ρ κ : Nat → Option Nat} {n : Nat} (hi : Inj κ) {i j : Nat} (h : κ i = some j) : (G.ren ρ κ n).tok j = G.tok i := by
  have hx : ∃ i, κ i = some j := ⟨i, h⟩
  simp only [Ghost.ren, dif_pos hx]
  rw [hi _ _ _ (Classical.choose_spec hx) h]
theorem Ghost.ren_loc_inv {G : Ghost} {ρ κ : Nat → Option Nat} {n j b : Nat} (h : (G.ren ρ κ n).loc j = some b) : ∃ i, ρ i = some j ∧ G.loc i = some b := by
  simp only [Ghost.ren] at h
  split at h
  · rename_i hx; exact ⟨_, Classical.choose_spec hx, h⟩
  · cases h
theorem Ghost.ren_tok_inv {G : Ghost} {ρ κ : Nat → Option Nat} {n j : Nat} {x : Nat × Nat × Nat} (h : (G.ren ρ κ n).tok j = some x) : ∃ i, κ i = some j ∧ G.tok i = some x := by
  simp only [Ghost.ren] at h
  split at h
  · rename_i hx; exact ⟨_, Classical.choose_spec hx, h⟩
  · cases h
theorem TokOk.ren {G : Ghost} {t : Tok} {ρ κ : Nat → Option Nat} {n0 b o n c sz : Nat} (hi : Inj κ) (hn : ∀ t u, κ t = some u → u < n0) (h : TokOk G t b o n c sz) : TokOk (G.ren ρ κ n0) (cutTok κ t) b o n c sz := by
  cases t with
  | no => trivial
  | full => exact h
  | own t =>
    simp only [cutTok]
    split
    · rename_i u hu
      exact ⟨hn t u hu, h.2.imp id (fun e => by rw [Ghost.ren_tok hi hu]; exact e)⟩
    · trivial
theorem Rel.ren {G : Ghost} {v : Value} {a : AV} (h : Rel G v a) {ρ κ : Nat → Option Nat} {n0 : Nat} (hi : Inj ρ) (hk : Inj κ) (hn : ∀ t u, κ t = some u → u < n0) : Rel (G.ren ρ κ n0) v (Va.cutAV ρ κ a) := by
  induction h with
  | junk v => exact .junk v
  | int k n => exact .int k n
  | bool b => exact .bool b
  | str s => exact .str s
  | nilp => exact .nilp
  | nils => exact .nils
  | nilm => exact .nilm
  | nilf => exact .nilf
  | nili => exact .nili
  | spc id b h =>
    simp only [Va.cutAV]
    split
    · rename_i j hj; exact .spc j b (by rw [Ghost.ren_loc hi hj]; exact h)
    · exact .junk _
  | mapr id b h =>
    simp only [Va.cutAV]
    split
    · rename_i j hj; exact .mapr j b (by rw [Ghost.ren_loc hi hj]; exact h)
    · exact .junk _
  | agg vs aas hl _ ih =>
    simp only [Va.cutAV, cutL_map]
    refine .agg vs _ (by simpa using hl) (fun i v a h1 h2 => ?_)
    rw [List.getElem?_map, Option.map_eq_some_iff] at h2
    obtain ⟨y, h2, rfl⟩ := h2
    exact ih i v y h1 h2
  | tup vs aas hl _ ih =>
    simp only [Va.cutAV, cutL_map]
    refine .tup vs _ (by simpa using hl) (fun i v a h1 h2 => ?_)
    rw [List.getElem?_map, Option.map_eq_some_iff] at h2
    obtain ⟨y, h2, rfl⟩ := h2
    exact ih i v y h1 h2
  | sl b o c t sz es val hc hm hz hf _ ht ih =>
    simp only [Va.cutAV, cutL_map]
    have hlen : (es.map (Va.cutAV ρ κ)).length = es.length := List.length_map ..
    rw [← hlen]
    refine .sl b o c _ sz _ val (by rw [hlen]; exact hc) hm (fun e he => ?_) (fun i e j a h1 h2 => ?_) (fun i e j a h1 h2 => ?_) (by rw [hlen]; exact ht.ren hk hn)
    · obtain ⟨y, hy, rfl⟩ := List.mem_map.1 he
      rw [cutAV_len]; exact hz y hy
    · rw [List.getElem?_map, Option.map_eq_some_iff] at h1
      obtain ⟨y, h1, rfl⟩ := h1
      obtain ⟨z, h3, rfl⟩ := cutAV_at h2
      exact hf i y j z h1 h3
    · rw [List.getElem?_map, Option.map_eq_some_iff] at h1
      obtain ⟨y, h1, rfl⟩ := h1
      obtain ⟨z, h3, rfl⟩ := cutAV_at h2
      exact ih i y j z h1 h3
  | sl0 A c t sz hm ht =>
    simp only [Va.cutAV, cutL]
    refine .sl0 A c _ sz hm ?_
    cases t with
    | no => exact .inl rfl
    | full => exact ht.imp id (fun h => ⟨h.1, trivial⟩)
    | own t =>
      simp only [cutTok]
      split
      · rename_i u hu
        exact .inr ⟨(ht.resolve_left (by simp)).1, hn t u hu⟩
      · exact .inl rfl
  | fptr b o off x val hf _ ih =>
    simp only [Va.cutAV, cutL_map]
    refine .fptr b o off _ val (fun j a h1 => ?_) (fun j a h1 => ?_)
    · rw [List.getElem?_map, Option.map_eq_some_iff] at h1
      obtain ⟨y, h1, rfl⟩ := h1
      exact hf j y h1
    · rw [List.getElem?_map, Option.map_eq_some_iff] at h1
      obtain ⟨y, h1, rfl⟩ := h1
      exact ih j y h1
  | ref id off b h =>
    simp only [Va.cutAV]
    split
    · rename_i j hj; exact .ref j off b (by rw [Ghost.ren_loc hi hj]; exact h)
    · exact .junk _
  | msl id off len c b hc h =>
    simp only [Va.cutAV]
    split
    · rename_i j hj; exact .msl j off len c b hc (by rw [Ghost.ren_loc hi hj]; exact h)
    · exact .junk _
  | vec id sz len c b h0 hc hm h hs =>
    simp only [Va.cutAV]
    rw [if_neg (by omega)]
    split
    · rename_i j hj; exact .vec j sz len c b h0 hc hm (by rw [Ghost.ren_loc hi hj]; exact h) (by rw [Ghost.ren_bsz hi hj]; exact hs)
    · exact .junk _
  | vec0 A id sz =>
    simp only [Va.cutAV, if_true]
    exact .vec0 A _ _
  | vc id sz off len c b hc hm h hs =>
    simp only [Va.cutAV]
    split
    · rename_i j hj; exact .vc j sz off len c b hc hm (by rw [Ghost.ren_loc hi hj]; exact h) (by rw [Ghost.ren_bsz hi hj]; exact hs)
    · exact .junk _
  | iface t v a _ ih => exact .iface t v _ ih
  | fn f fs cs fa ca hl hk' _ _ ih1 ih2 =>
    simp only [Va.cutAV, cutL_map]
    refine .fn f fs cs _ _ (by simpa using hl) (by simpa using hk') (fun i v a h1 h2 => ?_) (fun i v a h1 h2 => ?_)
    · rw [List.getElem?_map, Option.map_eq_some_iff] at h2
      obtain ⟨y, h2, rfl⟩ := h2
      exact ih1 i v y h1 h2
    · rw [List.getElem?_map, Option.map_eq_some_iff] at h2
      obtain ⟨y, h2, rfl⟩ := h2
      exact ih2 i v y h1 h2
theorem Rel.uncut {G : Ghost} {v : Value} {a : AV} (h : Rel G v a) {ρ κ : Nat → Option Nat} (hl : ∀ i b, G.loc i = some b → ρ i = some i) (hn : ∀ t, t < G.nt → κ t = some t) : Va.cutAV ρ κ a = a := by
  have hmap : ∀ {vs : Array Value} {aas : List AV}, vs.size = aas.length → (∀ (i : Nat) (v : Value) (a : AV), vs[i]? = some v → aas[i]? = some a → Va.cutAV ρ κ a = a) → aas.map (Va.cutAV ρ κ) = aas := by
    intro vs aas hs ih
    apply List.ext_getElem?
    intro i
    rw [List.getElem?_map]
    cases ha : aas[i]? with
    | none => rfl
    | some a =>
      have hi : i < vs.size := by rw [hs]; exact (List.getElem?_eq_some_iff.1 ha).1
      rw [Option.map_some, ih i vs[i] a (Array.getElem?_eq_getElem hi) ha]
  have htok : ∀ {t : Tok}, TokIn G t → cutTok κ t = t := by
    intro t ht
    cases t with
    | own t => simp only [cutTok]; rw [hn t ht]
    | _ => rfl
  induction h with
  | agg vs aas hl _ ih => simp only [Va.cutAV, cutL_map]; rw [hmap hl ih]
  | tup vs aas hl _ ih => simp only [Va.cutAV, cutL_map]; rw [hmap hl ih]
  | sl b o c t sz es val hc hm hz hf _ ht ih =>
    simp only [Va.cutAV, cutL_map]
    rw [htok ht.in_]
    have : es.map (Va.cutAV ρ κ) = es := by
      apply List.ext_getElem?
      intro i
      rw [List.getElem?_map]
      cases he : es[i]? with
      | none => rfl
      | some e =>
        rw [Option.map_some]
        congr 1
        have hcell : ∀ (j : Nat) (a : AV), e.cells[j]? = some a → Va.cutAV ρ κ a = a := fun j a hj => ih i e j a he hj
        by_cases hagg : ∃ cs, e = .agg cs
        · obtain ⟨cs, rfl⟩ := hagg
          simp only [Va.cutAV, cutL_map]
          congr 1
          apply List.ext_getElem?
          intro k
          rw [List.getElem?_map]
          cases hk : cs[k]? with
          | none => rfl
          | some y => rw [Option.map_some, hcell k y hk]
        · have hn' : ∀ cs, e ≠ .agg cs := fun cs h => hagg ⟨cs, h⟩
          have hc' : e.cells = [e] := by cases e <;> first | rfl | exact absurd rfl (hn' _)
          exact hcell 0 e (by rw [hc']; rfl)
    rw [this]
  | sl0 A c t sz hm ht =>
    simp only [Va.cutAV, cutL]
    rcases ht with rfl | ht
    · rfl
    · rw [htok ht.2]
  | fptr b o off x val hf _ ih =>
    simp only [Va.cutAV, cutL_map]
    congr 1
    apply List.ext_getElem?
    intro k
    rw [List.getElem?_map]
    cases hk : x[k]? with
    | none => rfl
    | some y => rw [Option.map_some, ih k y hk]
  | ref id off b h => simp only [Va.cutAV]; rw [hl _ _ h]
  | spc id b h => simp only [Va.cutAV]; rw [hl _ _ h]
  | mapr id b h => simp only [Va.cutAV]; rw [hl _ _ h]
  | msl id off len c b hc h => simp only [Va.cutAV]; rw [hl _ _ h]
  | vec id sz len c b h0 hc hm h hs => simp only [Va.cutAV]; rw [hl _ _ h]; simp
  | vec0 A id sz => simp only [Va.cutAV, if_true]
  | vc id sz off len c b hc hm h hs => simp only [Va.cutAV]; rw [hl _ _ h]
  | iface t v a _ ih => simp only [Va.cutAV]; rw [ih]
  | fn f fs cs fa ca hl hk _ _ ih1 ih2 => simp only [Va.cutAV, cutL_map]; rw [hmap hl ih1, hmap hk ih2]
  | _ => rfl
theorem RelL.uncut {G : Ghost} {vs : List Value} {as_ : List AV} (h : RelL G vs as_) {ρ κ : Nat → Option Nat} (hl : ∀ i b, G.loc i = some b → ρ i = some i) (hn : ∀ t, t < G.nt → κ t = some t) : as_.map (Va.cutAV ρ κ) = as_ := by
  apply List.ext_getElem?
  intro k
  rw [List.getElem?_map]
  cases ha : as_[k]? with
  | none => rfl
  | some a =>
    obtain ⟨u, hu, hru⟩ := h.get ha
    rw [Option.map_some, hru.uncut hl hn]
theorem RelL.ren {G : Ghost} {vs : List Value} {as_ : List AV} (h : RelL G vs as_) {ρ κ : Nat → Option Nat} {n0 : Nat} (hi : Inj ρ) (hk : Inj κ) (hn : ∀ t u, κ t = some u → u < n0) : RelL (G.ren ρ κ n0) vs (as_.map (Va.cutAV ρ κ)) :=
  ⟨by simp [h.len], fun i v a h1 h2 => by
    rw [List.getElem?_map, Option.map_eq_some_iff] at h2
    obtain ⟨y, h2, rfl⟩ := h2
    exact (h.at_ i v y h1 h2).ren hi hk hn⟩
theorem SpO.ren {G : Ghost} {o : Obj} {a : AV} (h : SpO G o a) {ρ κ : Nat → Option Nat} {n0 : Nat} (hi : Inj ρ) (hk : Inj κ) (hn : ∀ t u, κ t = some u → u < n0) : SpO (G.ren ρ κ n0) o (Va.cutAV ρ κ a) := by
  cases h with
  | it s p => exact .it s p
  | mp es clock ks vs h1 h2 hb => simp only [Va.cutAV, cutL_map]; exact .mp es clock _ _ (h1.ren hi hk hn) (h2.ren hi hk hn) hb
theorem SpO.uncut {G : Ghost} {o : Obj} {a : AV} (h : SpO G o a) {ρ κ : Nat → Option Nat} (hl : ∀ i b, G.loc i = some b → ρ i = some i) (hn : ∀ t, t < G.nt → κ t = some t) : Va.cutAV ρ κ a = a := by
  cases h with
  | it s p => rfl
  | mp es clock ks vs h1 h2 hb => simp only [Va.cutAV, cutL_map]; rw [h1.uncut hl hn, h2.uncut hl hn]
theorem cutAV_isSp (ρ κ : Nat → Option Nat) (a : AV) : (cutAV ρ κ a).isSp = a.isSp := by
  cases a <;> first | rfl | (simp only [cutAV]; split <;> rfl) | (simp only [cutAV]; repeat' split) <;> rfl
theorem cutL_spcl (ρ κ : Nat → Option Nat) (l : List AV) : spcl (cutL ρ κ l) = spcl l := by
  match l with
  | [] => rfl
  | [a] => simp only [cutL, spcl]; exact cutAV_isSp ρ κ a
  | _ :: _ :: _ => rfl
structure St.Le (σ σ' : St) : Prop where
  objs : ∀ (id : Nat) (c : List AV), σ.objs[id]? = some c → σ'.objs[id]? = some c
  opn : ∀ t : Nat, σ.opn[t]? = some true → σ'.opn[t]? = some true
theorem St.Le.refl (σ : St) : σ.Le σ := ⟨fun _ _ h => h, fun _ h => h⟩
theorem St.Le.trans {a b c : St} (h : a.Le b) (k : b.Le c) : a.Le c := ⟨fun i x e => k.objs i x (h.objs i x e), fun t e => k.opn t (h.opn t e)⟩
structure Kept (σ σ' σ1 : St) (ρ κ : Nat → Option Nat) : Prop where
  inj : Inj ρ
  injt : Inj κ
  old : ∀ i, i < σ.objs.length → ρ i = some i
  oldt : ∀ t, t < σ.opn.length → κ t = some t
  dom : ∀ i j, ρ i = some j → j < σ1.objs.length
  domt : ∀ t u, κ t = some u → u < σ1.opn.length
  len : σ.opn.length ≤ σ1.opn.length
  gl : σ1.gl = σ.gl
  obj : ∀ (j : Nat) (c : List AV), σ1.objs[j]? = some c → ∃ i c', ρ i = some j ∧ σ'.objs[i]? = some c' ∧ ((σ.objs[i]? = some c' ∧ c = c') ∨ c = cutL ρ κ c')
  opn : ∀ t u : Nat, κ t = some u → σ1.opn[u]? = some true → σ'.opn[t]? = some true
theorem Inv.forget {w0 : World} {G G' : Ghost} {w w' : World} {σ σ' σ1 : St} {ρ κ : Nat → Option Nat} (h : Inv w0 G w σ) (hG : G.Le G') (h' : Inv w0 G' w' σ') (hk : Kept σ σ' σ1 ρ κ) :
    G.Le (G'.ren ρ κ σ1.opn.length) ∧ Inv w0 (G'.ren ρ κ σ1.opn.length) w' σ1 := by
  have hle : G.Le (G'.ren ρ κ σ1.opn.length) := ⟨hG.fz, fun i b hi => by rw [Ghost.ren_loc hk.inj (hk.old i (h.locdom i b hi))]; exact hG.loc i b hi, fun t x ht => by
    rw [Ghost.ren_tok hk.injt (hk.oldt t (h.tokdom t x ht))]; exact hG.tok t x ht, Nat.le_trans h.nt hk.len, hG.lit, fun i b hi => by rw [Ghost.ren_bsz hk.inj (hk.old i (h.locdom i b hi))]; exact hG.bsz i b hi⟩
  refine ⟨hle, ⟨h'.below, h'.fz, fun id c hc hn hs => ?_, fun id b o c hl hc hn => ?_, fun id b hl => ?_, fun id b hl => ?_, fun i j b c d hi hj hc hd hn hn' => ?_, fun t b top en ho ht => ?_, fun t x ht => ?_, fun t t' x x' a1 a2 a3 a4 a5 => ?_, Nat.le_refl _, fun b hb => ?_, by rw [hk.gl]; exact h.gl, fun id a hc hs => ?_⟩⟩
  · obtain ⟨i, c', hi, hc', hor⟩ := hk.obj id c hc
    have hn' : c' ≠ [] := fun he => by subst he; rcases hor with ⟨_, rfl⟩ | rfl <;> exact hn rfl
    have hs' : spcl c' = false := by rcases hor with ⟨_, rfl⟩ | rfl
                                     · exact hs
                                     · rwa [cutL_spcl] at hs
    obtain ⟨b, T, vs, f1, f2, f3, f4, f5, f6⟩ := h'.loc i c' hc' hn' hs'
    have hcut : c = c'.map (cutAV ρ κ) := by
      rcases hor with ⟨hor, rfl⟩ | hor
      · obtain ⟨b0, T0, vs0, e1, e2, e3, e4, e5, e6⟩ := h.loc i c hor hn hs
        apply List.ext_getElem?
        intro k
        rw [List.getElem?_map]
        cases ha : c[k]? with
        | none => rfl
        | some a =>
          obtain ⟨u, hu, hru⟩ := e4.rel.get ha
          rw [Option.map_some, hru.uncut (fun i b hi => hk.old i (h.locdom i b hi)) (fun t ht => hk.oldt t (Nat.lt_of_lt_of_le ht h.nt))]
      · rw [hor, cutL_map]
    refine ⟨b, T, vs, by rw [Ghost.ren_loc hk.inj hi]; exact f1, f2, f3, ⟨by rw [hcut, List.length_map]; exact f4.le, by rw [hcut, List.length_map]; exact f4.rel.len, fun k v a g1 g2 => ?_⟩, f5, by rw [Ghost.ren_bsz hk.inj hi]; exact f6⟩
    rw [hcut, List.length_map] at g1
    rw [hcut, List.getElem?_map, Option.map_eq_some_iff] at g2
    obtain ⟨y, g2, rfl⟩ := g2
    exact (f4.rel.at_ k v y g1 g2).ren hk.inj hk.injt hk.domt
  · obtain ⟨i, hi1, hi⟩ := Ghost.ren_loc_inv hl
    obtain ⟨i', c', hi2, hc', hor⟩ := hk.obj id c hc
    obtain rfl := hk.inj _ _ _ hi1 hi2
    exact h'.locfz i b o c' hi hc' (fun he => by subst he; rcases hor with ⟨_, rfl⟩ | rfl <;> exact hn rfl)
  · obtain ⟨i, _, hi⟩ := Ghost.ren_loc_inv hl
    exact h'.loclt i b hi
  · obtain ⟨i, hi, _⟩ := Ghost.ren_loc_inv hl
    exact hk.dom i id hi
  · obtain ⟨i', e1, e2⟩ := Ghost.ren_loc_inv hi
    obtain ⟨j', e3, e4⟩ := Ghost.ren_loc_inv hj
    obtain ⟨i2, c', g1, g2, gor⟩ := hk.obj i c hc
    obtain ⟨j2, d', g3, g4, gor'⟩ := hk.obj j d hd
    obtain rfl := hk.inj _ _ _ e1 g1
    obtain rfl := hk.inj _ _ _ e3 g3
    have := h'.locinj i' j' b c' d' e2 e4 g2 g4 (fun he => by subst he; rcases gor with ⟨_, rfl⟩ | rfl <;> exact hn rfl) (fun he => by subst he; rcases gor' with ⟨_, rfl⟩ | rfl <;> exact hn' rfl)
    subst this
    rw [e1] at e3
    cases e3; rfl
  · obtain ⟨t', e1, e2⟩ := Ghost.ren_tok_inv ht
    obtain ⟨k1, k2, k3, k4⟩ := h'.tok t' b top en (hk.opn t' t e1 ho) e2
    refine ⟨k1, k2, k3, fun id hl => ?_⟩
    obtain ⟨i, hi1, hi⟩ := Ghost.ren_loc_inv hl
    have hlt := hk.dom i id hi1
    obtain ⟨i', c', hi2, hc', hor⟩ := hk.obj id _ (List.getElem?_eq_getElem hlt)
    obtain rfl := hk.inj _ _ _ hi1 hi2
    rw [k4 i hi] at hc'
    cases hc'
    rw [List.getElem?_eq_getElem hlt]
    rcases hor with ⟨_, e⟩ | e
    · rw [e]
    · rw [e]; rfl
  · obtain ⟨t', e1, e2⟩ := Ghost.ren_tok_inv ht
    exact hk.domt t' t e1
  · obtain ⟨s, e1, e2⟩ := Ghost.ren_tok_inv a3
    obtain ⟨s', e3, e4⟩ := Ghost.ren_tok_inv a4
    have := h'.tokinj s s' x x' (hk.opn s t e1 a1) (hk.opn s' t' e3 a2) e2 e4 a5
    subst this
    rw [e1] at e3
    cases e3; rfl
  · obtain ⟨k1, k2, k3, k4⟩ := h'.lit b hb
    exact ⟨k1, k2, fun id hl => by obtain ⟨i, _, hi⟩ := Ghost.ren_loc_inv hl; exact k3 i hi, fun t x ho ht => by obtain ⟨t', e1, e2⟩ := Ghost.ren_tok_inv ht; exact k4 t' x (hk.opn t' t e1 ho) e2⟩
  · obtain ⟨i, c', hi, hc', hor⟩ := hk.obj id [a] hc
    have key : ∃ a', c' = [a'] ∧ a = cutAV ρ κ a' ∧ a'.isSp = true := by
      rcases hor with ⟨hor, rfl⟩ | hor
      · obtain ⟨b, o, e1, e2, e3, e4⟩ := h.sp i a hor hs
        exact ⟨a, rfl, (e4.uncut (fun i b hi => hk.old i (h.locdom i b hi)) (fun t ht => hk.oldt t (Nat.lt_of_lt_of_le ht h.nt))).symm, hs⟩
      · match c', hor with
        | [], hor => simp [cutL] at hor
        | [a'], hor =>
          simp only [cutL] at hor
          have e := (List.cons.inj hor).1
          exact ⟨a', rfl, e, by rw [e, cutAV_isSp] at hs; exact hs⟩
        | _ :: _ :: _, hor => simp [cutL] at hor
    obtain ⟨a', rfl, rfl, hs'⟩ := key
    obtain ⟨b, o, e1, e2, e3, e4⟩ := h'.sp i a' hc' hs'
    exact ⟨b, o, by rw [Ghost.ren_loc hk.inj hi]; exact e1, e2, e3, e4.ren hk.inj hk.injt hk.domt⟩
theorem ACall.ren {P : Program} {g : FuncId} {args : List AV} {σ : St} {K K' : AV → St → Prop} (h : ACall P g args σ K)
    (hk : ∀ a σ', K a σ' → ∃ σ1 b ρ κ, Kept σ σ' σ1 ρ κ ∧ Wk (cutAV ρ κ a) b ∧ K' b σ1) : ACall P g args σ K' := by
  refine ⟨h.1, fun w0 G w vs hI hr => (h.2 w0 G w vs hI hr).mono ?_⟩
  rintro e w' ⟨v, a, σ', G', rfl, h1, h2, h3, h4⟩
  obtain ⟨σ1, b, ρ, κ, c1, c5, c6⟩ := hk a σ' h4
  obtain ⟨k1, k2⟩ := hI.forget h1 h2 c1
  exact ⟨v, b, σ1, _, rfl, k1, k2, c5 _ _ (h3.ren c1.inj c1.injt c1.domt), c6⟩
def idl (n : Nat) : Nat → Option Nat := fun i => if i < n then some i else none
theorem idl_inj (n : Nat) : Inj (idl n) := by
  intro i i' j h1 h2
  simp only [idl] at h1 h2
  split at h1 <;> split at h2 <;> simp_all
theorem idl_lt {n i j : Nat} (h : idl n i = some j) : i = j ∧ j < n := by
  simp only [idl] at h
  split at h <;> simp_all
theorem kept_same {σ σ' σ1 : St} (hol : σ1.objs.length = σ.objs.length) (htl : σ1.opn.length = σ.opn.length) (hgl : σ1.gl = σ.gl) (ho : ∀ t : Nat, σ1.opn[t]? = some true → σ'.opn[t]? = some true)
    (hobj : ∀ (id : Nat) (c : List AV), σ1.objs[id]? = some c → σ'.objs[id]? = some c ∧ (σ.objs[id]? = some c ∨ cutL (idl σ.objs.length) (idl σ.opn.length) c = c)) : Kept σ σ' σ1 (idl σ.objs.length) (idl σ.opn.length) :=
  ⟨idl_inj _, idl_inj _, fun i hi => by simp [idl, hi], fun i hi => by simp [idl, hi], fun i j h => by rw [hol]; exact (idl_lt h).2, fun i j h => by rw [htl]; exact (idl_lt h).2, by omega, hgl, fun j c hc => by
    have hj : j < σ.objs.length := by rw [← hol]; exact (List.getElem?_eq_some_iff.1 hc).1
    obtain ⟨h1, h2⟩ := hobj j c hc
    exact ⟨j, c, by simp [idl, hj], h1, h2.imp (fun h => ⟨h, rfl⟩) (fun h => h.symm)⟩, fun t u h hu => by
    obtain ⟨rfl, _⟩ := idl_lt h; exact ho t hu⟩
theorem ACall.cut {P : Program} {g : FuncId} {args : List AV} {σ : St} {K K' : AV → St → Prop} (h : ACall P g args σ K)
    (hk : ∀ a σ', K a σ' → ∃ σ1 b, σ1.objs.length = σ.objs.length ∧ σ1.opn.length = σ.opn.length ∧ σ1.gl = σ.gl ∧ (∀ t : Nat, σ1.opn[t]? = some true → σ'.opn[t]? = some true) ∧
      (∀ (id : Nat) (c : List AV), σ1.objs[id]? = some c → σ'.objs[id]? = some c ∧ (σ.objs[id]? = some c ∨ cutL (idl σ.objs.length) (idl σ.opn.length) c = c)) ∧ Wk (cutAV (idl σ.objs.length) (idl σ.opn.length) a) b ∧ K' b σ1) : ACall P g args σ K' :=
  h.ren fun a σ' ha => by
    obtain ⟨σ1, b, c1, c2, cg, c3, c4, c5, c6⟩ := hk a σ' ha
    exact ⟨σ1, b, _, _, kept_same c1 c2 cg c3 c4, c5, c6⟩
section
variable {P : Program} {Ty : TypeId → Option TI} {w0 : World} {G : Ghost} {n : Nat} {a : Act} {w : World} {σ : St} {ops : Array Oper} {S : List Nat}

theorem frT_congr (fr0 : Nat → AV) {aas aas' : Nat → AV} : ∀ i, (∀ k, k < i → aas k = aas' k) → frT ops fr0 aas i = frT ops fr0 aas' i
  | 0, _ => rfl
  | i + 1, h => by
    simp only [frT]
    rw [frT_congr fr0 i (fun k hk => h k (by omega)), h i (by omega)]
inductive AExit where
  | normal
  | exit (id : Nat)
  | ret
def ExitRel : Exit → AExit → Prop
  | .normal, .normal => True
  | .exit i, .exit j => i = j
  | .ret, .ret => True
  | _, _ => False
def AWP (P : Program) (n : Nat) (c : Code) (Q : AExit → (Nat → AV) → St → Prop) (fr : Nat → AV) (σ : St) : Prop :=
  ∀ w0 G a w, Sim w0 G n a w fr σ → Code.wp P c (fun e a' w' => ∃ ae fr' σ' G', ExitRel e ae ∧ G.Le G' ∧ Sim w0 G' n a' w' fr' σ' ∧ Q ae fr' σ') a w
theorem AWP.mono {c : Code} {Q Q' : AExit → (Nat → AV) → St → Prop} {fr : Nat → AV} (h : AWP P n c Q fr σ) (hq : ∀ e fr σ, Q e fr σ → Q' e fr σ) : AWP P n c Q' fr σ :=
  fun w0 G a w hS => wp_mono (h w0 G a w hS) fun _ _ _ ⟨ae, fr', σ', G', h1, h2, h3, h4⟩ => ⟨ae, fr', σ', G', h1, h2, h3, hq _ _ _ h4⟩

def allDst (n : Nat) (ops : Array Oper) : Bool := ops.toList.all fun o => match o.dst with | some t => Nat.ble (t + 1) n | none => true
theorem allDst_spec (h : allDst n ops = true) (j : Nat) (o : Oper) (ho : ops[j]? = some o) : dstOk n o.dst := by
  unfold allDst at h
  rw [List.all_eq_true] at h
  have := h o (Array.mem_toList_iff.2 (Array.mem_of_getElem? ho))
  unfold dstOk
  cases hd : o.dst with
  | none => trivial
  | some t => rw [hd] at this; exact Nat.le_of_ble_eq_true this
theorem awp_region0 {id : Nat} {Q : AExit → (Nat → AV) → St → Prop} {fr : Nat → AV} (hd : allDst n ops = true) (h : wpo P n ops (Q .normal) ops.toList fr σ) : AWP P n (.region id ops false) Q fr σ := by
  intro w0 G a w hS
  refine wp_region ?_
  rw [List.range_eq_range']
  refine wpo_sound (allDst_spec hd) ops.size 0 G a w fr σ (by omega) hS (by simpa using h) (fun G' a' w' fr' σ' h1 h2 h3 => ⟨.normal, fr', σ', G', trivial, h1, h2, h3⟩)
theorem awp_draw (hm : P.follows .mixedOrders = true) {id : Nat} {Q : AExit → (Nat → AV) → St → Prop} {fr : Nat → AV} (hd : allDst n ops = true) {S : List Nat} (hchk : drawChk ops S = true) (aas : Nat → AV) (σs : Nat → St)
    (hin : ∀ (i j : Nat) (o : Oper), ops[i]? = some o → S[j]? = some i → AStep P ops o (frT ops fr aas i) (σs j) (aas i) (σs (j + 1)))
    (hout : ∀ (i : Nat) (o : Oper), ops[i]? = some o → i ∉ S → ∀ j ∈ win ops S i, AStep P ops o (frT ops fr aas i) (σs j) (aas i) (σs j))
    (hQ : Q .normal (frT ops fr aas ops.size) (σs S.length)) (h0 : σs 0 = σ) : AWP P n (.region id ops true) Q fr σ := by
  intro w0 G a w hS
  refine wp_region_any hm ?_
  have hst : stg (Array.replicate ops.size false) S = 0 := by
    cases S with
    | nil => rfl
    | cons s r =>
      simp only [stg]
      rw [if_neg]
      rw [Array.getD_eq_getD_getElem?, Array.getElem?_replicate]
      split <;> simp
  refine draw_main (w0 := w0) (G := G) hchk (allDst_spec hd) fr aas σs hin hout (fun G' a' w' h1 h2 => ⟨.normal, _, _, G', trivial, h1, h2, hQ⟩) ops.size (Array.replicate ops.size false) G a _ ?_ (by simp) ?_ (.refl G) ?_
  · exact Nat.le_trans (List.length_filter_le _ _) (by simp)
  · intro k o ho hk
    unfold Lst at hk
    rw [Array.getD_eq_getD_getElem?, Array.getElem?_replicate] at hk
    split at hk <;> simp at hk
  · rw [hst, h0]
    have hfr : frL ops fr aas (Array.replicate ops.size false) = fr := by
      funext t
      unfold frL
      cases wOf ops t with
      | none => rfl
      | some k =>
        simp only []
        rw [if_neg]
        rw [Array.getD_eq_getD_getElem?, Array.getElem?_replicate]
        split <;> simp
    rw [hfr]
    exact ⟨hS.inv.drew, hS.frm, hS.size, hS.defers⟩
theorem AWP.wk {c : Code} {Q : AExit → (Nat → AV) → St → Prop} {fr g : Nat → AV} (h : AWP P n c Q g σ) (k : WkF fr g) : AWP P n c Q fr σ :=
  fun w0 G a w hS => h w0 G a w ⟨hS.inv, hS.frm.wk k, hS.size, hS.defers⟩
theorem awp_skip {Q : AExit → (Nat → AV) → St → Prop} {fr : Nat → AV} (h : Q .normal fr σ) : AWP P n .skip Q fr σ := fun w0 G a w hS => wp_skip ⟨.normal, fr, σ, G, trivial, .refl G, hS, h⟩
theorem awp_ret {Q : AExit → (Nat → AV) → St → Prop} {fr : Nat → AV} (h : Q .ret fr σ) : AWP P n .ret Q fr σ := fun w0 G a w hS => wp_ret ⟨.ret, fr, σ, G, trivial, .refl G, hS, h⟩
theorem awp_exit {id : Nat} {Q : AExit → (Nat → AV) → St → Prop} {fr : Nat → AV} (h : Q (.exit id) fr σ) : AWP P n (.exit id) Q fr σ := fun w0 G a w hS => wp_exit ⟨.exit id, fr, σ, G, rfl, .refl G, hS, h⟩
def thenQ (b : (Nat → AV) → St → Prop) (Q : AExit → (Nat → AV) → St → Prop) : AExit → (Nat → AV) → St → Prop
  | .normal, fr, σ => b fr σ
  | e, fr, σ => Q e fr σ
def blockQ (id : Nat) (Q : AExit → (Nat → AV) → St → Prop) : AExit → (Nat → AV) → St → Prop
  | .exit i, fr, σ => bif Nat.beq i id then Q .normal fr σ else Q (.exit i) fr σ
  | e, fr, σ => Q e fr σ
theorem awp_seq {x y : Code} {Q : AExit → (Nat → AV) → St → Prop} {fr : Nat → AV} (h : AWP P n x (thenQ (AWP P n y Q) Q) fr σ) : AWP P n (.seq x y) Q fr σ := fun w0 G a w hS => by
  refine wp_seq (wp_mono (h w0 G a w hS) ?_)
  rintro e a' w' ⟨ae, fr', σ', G', hr, hG, hS', hq⟩
  cases e <;> cases ae <;> simp only [ExitRel] at hr
  · exact wp_mono (hq w0 G' a' w' hS') fun e a2 w2 ⟨ae, fr2, σ2, G2, k1, k2, k3, k4⟩ => ⟨ae, fr2, σ2, G2, k1, hG.trans k2, k3, k4⟩
  · subst hr; exact ⟨.exit _, fr', σ', G', rfl, hG, hS', hq⟩
  · exact ⟨.ret, fr', σ', G', trivial, hG, hS', hq⟩
theorem awp_cond {c : Operand} {x y : Code} {Q : AExit → (Nat → AV) → St → Prop} {fr : Nat → AV} {b : Bool} (hb : aeval fr c = .bool b) (h1 : b = true → AWP P n x Q fr σ) (h2 : b = false → AWP P n y Q fr σ) : AWP P n (.cond c x y) Q fr σ := fun w0 G a w hS => by
  have hr := rel_aeval hS.frm c
  rw [hb] at hr
  cases hv : a.eval c <;> rw [hv] at hr <;> cases hr
  exact wp_cond_split hv (fun ht => h1 ht w0 G a w hS) (fun hf => h2 hf w0 G a w hS)
theorem awp_block {id : Nat} {c : Code} {Q : AExit → (Nat → AV) → St → Prop} {fr : Nat → AV} (h : AWP P n c (blockQ id Q) fr σ) : AWP P n (.block id c) Q fr σ := fun w0 G a w hS => by
  refine wp_block (wp_mono (h w0 G a w hS) ?_)
  rintro e a' w' ⟨ae, fr', σ', G', hr, hG, hS', hq⟩
  cases e <;> cases ae <;> simp only [ExitRel] at hr
  · exact ⟨.normal, fr', σ', G', trivial, hG, hS', hq⟩
  · subst hr
    simp only [Exit.inBlock]
    simp only [blockQ] at hq
    split
    · rename_i he; subst he; rw [show Nat.beq _ _ = true from Nat.beq_refl _] at hq; exact ⟨.normal, fr', σ', G', trivial, hG, hS', hq⟩
    · rename_i he
      rw [show Nat.beq _ id = false from by cases hx : Nat.beq _ id with | false => rfl | true => exact absurd (Nat.eq_of_beq_eq_true hx) he] at hq
      exact ⟨.exit _, fr', σ', G', rfl, hG, hS', hq⟩
  · exact ⟨.ret, fr', σ', G', trivial, hG, hS', hq⟩

def rounds {S X : Type} (body : S → Option (S ⊕ X)) : Nat → S → Option X
  | 0, _ => none
  | k + 1, s => match body s with
    | none => none
    | some (.inl s') => rounds body k s'
    | some (.inr x) => some x
theorem rounds_more {S X : Type} {body : S → Option (S ⊕ X)} : ∀ {k : Nat} {s : S} {x : X}, rounds body k s = some x → ∀ m, k ≤ m → rounds body m s = some x
  | 0, s, x, h, m, hm => by cases h
  | k + 1, s, x, h, m, hm => by
    obtain ⟨m, rfl⟩ : ∃ j, m = j + 1 := ⟨m - 1, by omega⟩
    simp only [rounds] at h ⊢
    split <;> rename_i he <;> rw [he] at h
    · cases h
    · exact rounds_more h m (by omega)
    · exact h
open Classical in
noncomputable def loopO {S X : Type} (body : S → Option (S ⊕ X)) (s : S) : Option X := if h : ∃ k x, rounds body k s = some x then some (Classical.choose (Classical.choose_spec h)) else none
theorem loopO_iff {S X : Type} {body : S → Option (S ⊕ X)} {s : S} {x : X} : loopO body s = some x ↔ ∃ k, rounds body k s = some x := by
  unfold loopO
  constructor
  · intro h
    split at h
    · rename_i hx
      cases h
      exact ⟨_, Classical.choose_spec (Classical.choose_spec hx)⟩
    · cases h
  · rintro ⟨k, hk⟩
    have hx : ∃ k x, rounds body k s = some x := ⟨k, x, hk⟩
    rw [dif_pos hx]
    have h2 := Classical.choose_spec (Classical.choose_spec hx)
    have e1 := rounds_more hk (max k (Classical.choose hx)) (Nat.le_max_left _ _)
    have e2 := rounds_more h2 (max k (Classical.choose hx)) (Nat.le_max_right _ _)
    rw [e1] at e2
    exact e2.symm
theorem loopO_eq {S X : Type} (body : S → Option (S ⊕ X)) (s : S) : loopO body s = match body s with | none => none | some (.inl s') => loopO body s' | some (.inr x) => some x := by
  apply Option.ext
  intro x
  rw [loopO_iff]
  constructor
  · rintro ⟨k, hk⟩
    cases k with
    | zero => cases hk
    | succ k =>
      simp only [rounds] at hk
      split <;> rename_i he <;> rw [he] at hk
      · cases hk
      · exact loopO_iff.2 ⟨k, hk⟩
      · exact hk
  · intro h
    split at h <;> rename_i he
    · cases h
    · obtain ⟨k, hk⟩ := loopO_iff.1 h
      exact ⟨k + 1, by simp only [rounds, he]; exact hk⟩
    · exact ⟨1, by simp only [rounds, he]; exact h⟩
theorem loopO_in {S X : Type} {body : S → Option (S ⊕ X)} {s s' : S} (h : body s = some (.inl s')) : loopO body s = loopO body s' := by rw [loopO_eq, h]
theorem loopO_out {S X : Type} {body : S → Option (S ⊕ X)} {s : S} {x : X} (h : body s = some (.inr x)) : loopO body s = some x := by rw [loopO_eq, h]

theorem awp_loopO {S X : Type} {c : Code} {Q : AExit → (Nat → AV) → St → Prop} {fr : Nat → AV} {body : S → Option (S ⊕ X)} {s : S} {x : X} (H : loopO body s = some x) (I : S → (Nat → AV) → St → Prop) (h0 : I s fr σ)
    (h : ∀ s fr σ y, I s fr σ → body s = some y → (∀ z, y = .inr z → z = x) → AWP P n c (thenQ (fun fr' σ' => ∃ s', y = .inl s' ∧ I s' fr' σ') (fun e fr' σ' => (∃ z, y = .inr z) ∧ Q e fr' σ')) fr σ) : AWP P n (.loop c) Q fr σ := by
  obtain ⟨k, hk⟩ := loopO_iff.1 H
  intro w0 G a w hS b kk cs
  have key : ∀ (k : Nat) (s : S) (G' : Ghost) (a : Act) (w : World) (fr : Nat → AV) (σ : St), rounds body k s = some x → G.Le G' → I s fr σ → Sim w0 G' n a w fr σ → ∃ e a' w', (∃ ae fr' σ' G', ExitRel e ae ∧ G.Le G' ∧ Sim w0 G' n a' w' fr' σ' ∧ Q ae fr' σ') ∧ Arrives P (lone (b.at a (.code c :: .inLoop c :: kk)) cs w) b kk cs e a' w' := by
    intro k
    induction k with
    | zero => intro s G' a w fr σ hk; cases hk
    | succ k ih =>
      intro s G' a w fr σ hk hG hI hS
      simp only [rounds] at hk
      cases hb : body s with
      | none => rw [hb] at hk; cases hk
      | some y =>
        rw [hb] at hk
        have hy : ∀ z, y = .inr z → z = x := by
          rintro z rfl
          simpa using hk
        obtain ⟨e, a1, w1, ⟨ae, fr', σ', G2, hr, hG2, hS2, hq⟩, harr⟩ := h s fr σ y hI hb hy w0 G' a w hS b (.inLoop c :: kk) cs
        cases e with
        | normal =>
          cases ae <;> simp only [ExitRel] at hr
          obtain ⟨s', rfl, hI2⟩ := hq
          obtain ⟨e3, a3, w3, hq3, harr3⟩ := ih s' G2 a1 w1 fr' σ' hk (hG.trans hG2) hI2 hS2
          exact ⟨e3, a3, w3, hq3, .of_steps (Steps.trans harr (.one step_inLoop)) harr3⟩
        | exit id => exact ⟨_, a1, w1, ⟨ae, fr', σ', G2, hr, hG.trans hG2, hS2, by cases ae <;> simp only [ExitRel] at hr <;> exact hq.2⟩, .pass (x := .inLoop c) rfl (fun _ _ => .inl (by simp)) harr⟩
        | ret => exact ⟨_, a1, w1, ⟨ae, fr', σ', G2, hr, hG.trans hG2, hS2, by cases ae <;> simp only [ExitRel] at hr <;> exact hq.2⟩, .pass (x := .inLoop c) rfl (fun _ _ => .inl (by simp)) harr⟩
        | goto l => exact absurd hr (by cases ae <;> simp [ExitRel])
        | panic ch => exact absurd hr (by cases ae <;> simp [ExitRel])
        | outgrown => exact absurd hr (by cases ae <;> simp [ExitRel])
  obtain ⟨e, a', w', hq, harr⟩ := key k s G a w fr σ hk (.refl G) h0 hS
  exact ⟨e, a', w', hq, .of_steps (.one step_loop) harr⟩

def aresOne (Ty : TypeId → Option TI) (fr : Nat → AV) (σ : St) : ResultVar → Option AV
  | .tmp t => some (fr t)
  | .cell t T => aload Ty T (fr t) σ
def aresL (Ty : TypeId → Option TI) (fr : Nat → AV) (σ : St) : List ResultVar → Option (List AV)
  | [] => some []
  | r :: rs => match aresOne Ty fr σ r, aresL Ty fr σ rs with
    | some a, some l => some (a :: l)
    | _, _ => none
def ares (Ty : TypeId → Option TI) (fr : Nat → AV) (σ : St) (rs : List ResultVar) : Option AV :=
  match aresL Ty fr σ rs with
  | some [a] => some a
  | some l => some (.tup l)
  | none => none
def resF (tmps : Array Value) : ResultVar → Sem Value
  | .tmp t => pure (tmps.getD t undef)
  | .cell x t => do loadVar t (← asAddr (tmps.getD x undef))
theorem results_eq (fn : Func) (tmps : Array Value) : results fn tmps = (do let vs ← fn.results.mapM (resF tmps); pure (if h : vs.size = 1 then vs[0] else .tuple vs)) := by
  unfold results
  congr 1
theorem resF_sound (hT : TyOk P Ty) {fr : Nat → AV} (hS : Sim w0 G n a w fr σ) {r : ResultVar} {x : AV} (h : aresOne Ty fr σ r = some x) : ∃ v, (resF a.tmps r).run P w = .ok v w ∧ Rel G v x := by
  cases r with
  | tmp t =>
    simp [aresOne] at h
    subst h
    exact ⟨_, rfl, hS.frm t⟩
  | cell t T =>
    simp only [aresOne] at h
    obtain ⟨v, m1, m2⟩ := aload_sound (P := P) hT hS.inv (hS.frm t) h
    have hp : ∃ ad, a.tmps.getD t undef = .pointer (some ad) := by
      have hr := hS.frm t
      unfold aload at h
      split at h
      case h_2 => cases h
      rename_i cells off hc
      obtain ⟨b, base, news, e, _⟩ := addr_cells hS.inv hr hc
      exact ⟨_, e⟩
    obtain ⟨ad, hp⟩ := hp
    rw [hp] at m1
    refine ⟨v, ?_, m2⟩
    simp only [resF, hp]
    exact m1
theorem aresL_sound (hT : TyOk P Ty) {fr : Nat → AV} (hS : Sim w0 G n a w fr σ) : ∀ (rs : List ResultVar) (l : List AV), aresL Ty fr σ rs = some l → ∃ vs, (rs.mapM (resF a.tmps)).run P w = .ok vs w ∧ RelL G vs l
  | [], l, h => by
    simp [aresL] at h
    subst h
    exact ⟨[], by simp, RelL.nil G⟩
  | r :: rs, l, h => by
    simp only [aresL] at h
    split at h
    case h_2 => cases h
    rename_i x l' h1 h2
    simp at h
    subst h
    obtain ⟨vs, k1, k2⟩ := aresL_sound hT hS rs l' h2
    obtain ⟨v, m1, m2⟩ := resF_sound hT hS h1
    exact ⟨v :: vs, by simp only [List.mapM_cons, Sem.run_bind, Sem.run_pure, Result.andThen_ok, k1, m1], k2.cons m2⟩
theorem ares_sound (hT : TyOk P Ty) {fn : Func} {fr : Nat → AV} (hS : Sim w0 G n a w fr σ) {x : AV} (h : ares Ty fr σ fn.results.toList = some x) : ∃ v, (results fn a.tmps).run P w = .ok v w ∧ Rel G v x := by
  unfold ares at h
  rw [results_eq]
  have key : ∀ l, aresL Ty fr σ fn.results.toList = some l → ∃ vs : Array Value, (fn.results.mapM (resF a.tmps)).run P w = .ok vs w ∧ RelL G vs.toList l := by
    intro l hl
    obtain ⟨vs, k1, k2⟩ := aresL_sound hT hS _ l hl
    refine ⟨vs.toArray, ?_, by simpa using k2⟩
    rw [Array.mapM_eq_mapM_toList]
    simp [k1]
  split at h
  · rename_i y hl
    simp at h
    subst h
    obtain ⟨vs, k1, k2⟩ := key _ hl
    have h1 : vs.size = 1 := by simpa using k2.len
    obtain ⟨v, hv⟩ : ∃ v, vs = #[v] := by
      obtain ⟨l⟩ := vs
      match l, h1 with
      | [v], _ => exact ⟨v, rfl⟩
    subst hv
    exact ⟨v, by simp only [Sem.run_bind, k1, Result.andThen_ok]; rfl, k2.at_ 0 v y rfl rfl⟩
  · rename_i l hne hl
    simp at h
    subst h
    obtain ⟨vs, k1, k2⟩ := key _ hl
    have h1 : ¬ vs.size = 1 := fun h1 => by
      have : l.length = 1 := by rw [← k2.len]; simpa using h1
      obtain ⟨y, rfl⟩ := List.length_eq_one_iff.1 this
      exact hne y rfl
    refine ⟨.tuple vs, by simp only [Sem.run_bind, k1, Result.andThen_ok]; rw [dif_neg h1]; rfl, .tup vs l (by simpa using k2.len) (fun i v a e1 e2 => k2.at_ i v a (by simpa using e1) e2)⟩
  · cases h
def retQ (Ty : TypeId → Option TI) (rs : List ResultVar) (K : AV → St → Prop) : AExit → (Nat → AV) → St → Prop := fun e fr σ' => match e with
  | .exit _ => False
  | _ => ∃ x y, ares Ty fr σ' rs = some x ∧ Wk x y ∧ K y σ'
def frame0 (args : List AV) : Nat → AV := fun t => args.getD t .junk
theorem acall_intro (hT : TyOk P Ty) {g : FuncId} {fn : Func} {c : Code} {args : List AV} {K : AV → St → Prop} (hf : P.funcs[g]? = some fn) (hn : fn.name ≠ "runtime.NumGoroutine") (hb : fn.body = some c) (hl : args.length ≤ fn.ntmps)
    (h : AWP P fn.ntmps c (retQ Ty fn.results.toList K) (frame0 args) σ) : ACall P g args σ K := by
  refine ⟨⟨fn, hf, hn, by rw [hb]; rfl⟩, fun w0 G w vs hI hr => ?_⟩
  have hvl : vs.size = args.length := by simpa using hr.len
  refine calls_of_wp hf hb (wp_mono (h w0 G { tmps := vs ++ Array.replicate (fn.ntmps - vs.size) undef, defers := [] } w ⟨hI, fun t => ?_, by simp; omega, rfl⟩) ?_)
  · unfold frame0
    by_cases ht : t < args.length
    · rw [List.getD_eq_getElem?_getD, List.getElem?_eq_getElem ht, Option.getD_some, Array.getD_eq_getD_getElem?, Array.getElem?_append_left (by omega)]
      obtain ⟨v, hv, hrv⟩ := hr.get (List.getElem?_eq_getElem ht)
      rw [Array.getElem?_toList] at hv
      rw [hv]
      exact hrv
    · rw [List.getD_eq_getElem?_getD, List.getElem?_eq_none (by omega)]
      exact .junk _
  · rintro e a' w' ⟨ae, fr', σ', G', hrel, hG, hS', hq⟩
    cases e <;> cases ae <;> simp only [ExitRel] at hrel
    · obtain ⟨x, y, hx, hw, hk⟩ := hq
      obtain ⟨v, k1, k2⟩ := ares_sound hT hS' hx
      exact ⟨hS'.defers, v, k1, v, y, σ', G', rfl, hG, hS'.inv, hw G' v k2, hk⟩
    · exact hq.elim
    · obtain ⟨x, y, hx, hw, hk⟩ := hq
      obtain ⟨v, k1, k2⟩ := ares_sound hT hS' hx
      exact ⟨hS'.defers, v, k1, v, y, σ', G', rfl, hG, hS'.inv, hw G' v k2, hk⟩
end

def ofZero : Value → AV
  | .agg cs => .agg (cs.toList.map ofConst)
  | v => ofConst v
def zOk : Value → AV → Bool
  | .slice none 0 0, .sl .no _ [] => true
  | .int k n, .int k' n' => k == k' && n == n'
  | .bool b, .bool b' => b == b'
  | .string s, .str s' => decide (s = s')
  | .pointer none, .nilp => true
  | .slice none 0 0, .nils => true
  | .map none, .nilm => true
  | .nilFunc, .nilf => true
  | .nilIface, .nili => true
  | _, _ => false
theorem zOk_rel {v : Value} {a : AV} (h : zOk v a = true) (G : Ghost) : Rel G v a := by
  unfold zOk at h
  split at h
  · exact .sl0 none 0 .no _ (Nat.zero_le _) (.inl rfl)
  · simp at h; obtain ⟨rfl, rfl⟩ := h; exact .int _ _
  · simp at h; subst h; exact .bool _
  · simp at h; subst h; exact .str _
  · exact .nilp
  · exact .nils
  · exact .nilm
  · exact .nilf
  · exact .nili
  · cases h
def zOkL : List Value → List AV → Bool
  | [], [] => true
  | v :: vs, a :: aas => zOk v a && zOkL vs aas
  | _, _ => false
theorem zOkL_rel : ∀ {vs : List Value} {aas : List AV} (_ : zOkL vs aas = true) (G : Ghost), RelL G vs aas
  | [], [], _, G => RelL.nil G
  | v :: vs, a :: aas, h, G => by
    simp only [zOkL, Bool.and_eq_true] at h
    exact (zOkL_rel h.2 G).cons (zOk_rel h.1 G)
  | [], _ :: _, h, _ => by cases h
  | _ :: _, [], h, _ => by cases h
theorem tiOk_mk {P : Program} {t : TypeId} {i : TI} (z : Value) (d : TdOk P t i.d) (h : (P.info? t).map (fun ti => (ti.size, ti.bytes, ti.zero)) = some (i.sz, i.bytes, some z)) (hz : zOkL z.cells.toList i.zero.cells = true) (h1 : z.cells.size = i.sz) (h2 : i.zero.cells.length = i.sz) (h3 : z.cells.all (·.oneCell') = true) : TiOk P t i := by
  refine ⟨d, ?_⟩
  cases hi : P.info? t with
  | none => rw [hi] at h; cases h
  | some ti =>
    rw [hi] at h
    simp only [Option.map_some, Option.some.injEq, Prod.mk.injEq] at h
    exact ⟨ti, z, rfl, h.1, h.2.1, h.2.2, fun G => zOkL_rel hz G, h1, h2, h3⟩

def fm : List (Nat × AV) → Nat → AV
  | [] => fun _ => .junk
  | p :: l => upd (fm l) p.1 p.2
theorem wkf_nil (f : Nat → AV) : WkF f (fm []) := fun _ => Wk.junk _
theorem wkf_cons {f : Nat → AV} {t : Nat} {a : AV} {l : List (Nat × AV)} (h : Wk (f t) a) (k : WkF f (fm l)) : WkF f (fm ((t, a) :: l)) := by
  intro x
  simp only [fm, upd]
  split
  · rename_i e; subst e; exact h
  · exact k x
def fmArgs : Nat → List AV → List (Nat × AV)
  | _, [] => []
  | i, a :: l => (i, a) :: fmArgs (i + 1) l
theorem fmArgs_at : ∀ (l : List AV) (i t : Nat), fm (fmArgs i l) t = if i ≤ t then l.getD (t - i) .junk else .junk
  | [], i, t => by simp [fmArgs, fm]
  | a :: l, i, t => by
    simp only [fmArgs, fm, upd]
    by_cases h : t = i
    · subst h; simp
    · rw [if_neg h, fmArgs_at l (i + 1) t]
      by_cases h2 : i ≤ t
      · rw [if_pos (by omega), if_pos h2, show t - i = (t - (i + 1)) + 1 by omega]; simp
      · rw [if_neg (by omega), if_neg h2]
theorem frame0_fm (args : List AV) : frame0 args = fm (fmArgs 0 args) := by
  funext t
  rw [fmArgs_at]
  simp [frame0]

def lt {α β : Type} (x : α) (k : α → β) : β := k x
theorem lt_eq {α β : Type} (x : α) (k : α → β) : lt x k = k x := rfl

structure Holds (σ0 : St) (O : List (Nat × List AV)) (A : List Nat) (σ : St) : Prop where
  base : ∀ (id : Nat) (c : List AV), σ0.objs[id]? = some c → (∀ p ∈ O, p.1 ≠ id) → σ.objs[id]? = some c
  opn : ∀ t : Nat, σ0.opn[t]? = some true → σ.opn[t]? = some true
  olen : σ0.objs.length ≤ σ.objs.length
  tlen : σ0.opn.length ≤ σ.opn.length
  obj : ∀ p ∈ O, σ.objs[p.1]? = some p.2
  dist : O.Pairwise fun p q => p.1 ≠ q.1
  tok : ∀ t ∈ A, σ.opn[t]? = some true ∧ σ0.opn.length ≤ t
  tdist : A.Pairwise fun a b => a ≠ b
  gl : σ.gl = σ0.gl

theorem Holds.init (σ : St) : Holds σ [] [] σ :=
  ⟨fun _ _ h _ => h, fun _ h => h, Nat.le_refl _, Nat.le_refl _, fun _ h => (by cases h), .nil, fun _ h => (by cases h), .nil, rfl⟩
theorem Holds.bring {σ0 σ : St} {O : List (Nat × List AV)} {A : List Nat} (h : Holds σ0 O A σ) {id : Nat} {c : List AV} (hc : σ.objs[id]? = some c) (hn : ∀ p ∈ O, id ≠ p.1) : Holds σ0 ((id, c) :: O) A σ :=
  ⟨fun i d h1 h2 => h.base i d h1 (fun p hp => h2 p (List.mem_cons_of_mem _ hp)), h.opn, h.olen, h.tlen, fun p hp => by
    rcases List.mem_cons.1 hp with rfl | hp
    · exact hc
    · exact h.obj p hp, .cons hn h.dist, h.tok, h.tdist, h.gl⟩
theorem Holds.at_ {σ0 σ : St} {O : List (Nat × List AV)} {A : List Nat} (h : Holds σ0 O A σ) (k : Nat) {id : Nat} {c : List AV} (hk : O[k]? = some (id, c)) : σ.objs[id]? = some c := h.obj _ (List.mem_of_getElem? hk)
theorem Holds.open_ {σ0 σ : St} {O : List (Nat × List AV)} {A : List Nat} (h : Holds σ0 O A σ) (k : Nat) {t : Nat} (hk : A[k]? = some t) : σ.opn[t]? = some true := (h.tok _ (List.mem_of_getElem? hk)).1
theorem pairwise_set {α : Type} {R : α → α → Prop} (hs : ∀ a b, R a b → R b a) : ∀ {l : List α} (k : Nat) {x : α}, l.Pairwise R → (∀ y, R x y ∨ l[k]? = some y ∨ y ∉ l) → (∀ i y, l[i]? = some y → i ≠ k → R x y) → (l.set k x).Pairwise R
  | [], _, _, h, _, _ => by simp
  | a :: l, 0, x, h, _, h2 => by
    rw [List.set_cons_zero]
    rw [List.pairwise_cons] at h ⊢
    exact ⟨fun y hy => by
      obtain ⟨i, hi⟩ := List.mem_iff_getElem?.1 hy
      exact h2 (i + 1) y (by simpa using hi) (by omega), h.2⟩
  | a :: l, k + 1, x, h, h1, h2 => by
    rw [List.set_cons_succ]
    rw [List.pairwise_cons] at h ⊢
    refine ⟨fun y hy => ?_, pairwise_set hs k h.2 (fun y => ?_) (fun i y hi hk => h2 (i + 1) y (by simpa using hi) (by omega))⟩
    · rcases List.mem_or_eq_of_mem_set hy with hy | rfl
      · exact h.1 y hy
      · exact hs _ _ (h2 0 a rfl (by omega))
    · by_cases hy : y ∈ l
      · obtain ⟨i, hi⟩ := List.mem_iff_getElem?.1 hy
        by_cases hik : i = k
        · subst hik; exact .inr (.inl hi)
        · exact .inl (h2 (i + 1) y (by simpa using hi) (by omega))
      · exact .inr (.inr hy)
theorem dist_get {O : List (Nat × List AV)} (h : O.Pairwise fun p q => p.1 ≠ q.1) : ∀ {i j : Nat} {p q : Nat × List AV}, O[i]? = some p → O[j]? = some q → i ≠ j → p.1 ≠ q.1 := by
  induction h with
  | nil => intro i j p q h1; simp at h1
  | cons hh ht ih =>
    intro i j p q h1 h2 hij
    cases i with
    | zero =>
      cases j with
      | zero => exact absurd rfl hij
      | succ j =>
        simp at h1 h2
        subst h1
        exact hh q (List.mem_of_getElem? h2)
    | succ i =>
      cases j with
      | zero =>
        simp at h1 h2
        subst h2
        exact Ne.symm (hh p (List.mem_of_getElem? h1))
      | succ j => exact ih (by simpa using h1) (by simpa using h2) (by omega)
theorem tdist_get {A : List Nat} (h : A.Pairwise fun a b => a ≠ b) : ∀ {i j : Nat} {p q : Nat}, A[i]? = some p → A[j]? = some q → i ≠ j → p ≠ q := by
  induction h with
  | nil => intro i j p q h1; simp at h1
  | cons hh ht ih =>
    intro i j p q h1 h2 hij
    cases i with
    | zero =>
      cases j with
      | zero => exact absurd rfl hij
      | succ j =>
        simp at h1 h2
        subst h1
        exact hh q (List.mem_of_getElem? h2)
    | succ i =>
      cases j with
      | zero =>
        simp at h1 h2
        subst h2
        exact Ne.symm (hh p (List.mem_of_getElem? h1))
      | succ j => exact ih (by simpa using h1) (by simpa using h2) (by omega)
theorem Holds.put {σ0 σ : St} {O : List (Nat × List AV)} {A : List Nat} (h : Holds σ0 O A σ) (k : Nat) {id : Nat} {c : List AV} (hk : O[k]? = some (id, c)) (c' : List AV) : Holds σ0 (O.set k (id, c')) A ⟨σ.objs.set id c', σ.opn, σ.gl⟩ := by
  have hlt : id < σ.objs.length := (List.getElem?_eq_some_iff.1 (h.at_ k hk)).1
  have hkl : k < O.length := (List.getElem?_eq_some_iff.1 hk).1
  refine ⟨fun i d h1 h2 => ?_, h.opn, by simpa using h.olen, h.tlen, fun p hp => ?_, ?_, h.tok, h.tdist, h.gl⟩
  · have hi : id ≠ i := h2 (id, c') (List.mem_iff_getElem?.2 ⟨k, by rw [List.getElem?_set_self hkl]⟩)
    simp only [List.getElem?_set_ne hi]
    refine h.base i d h1 (fun p hp => ?_)
    obtain ⟨j, hj⟩ := List.mem_iff_getElem?.1 hp
    by_cases hjk : k = j
    · subst hjk; rw [hk] at hj; cases hj; exact hi
    · exact h2 p (List.mem_iff_getElem?.2 ⟨j, by rw [List.getElem?_set_ne hjk]; exact hj⟩)
  · obtain ⟨j, hj⟩ := List.mem_iff_getElem?.1 hp
    by_cases hjk : k = j
    · subst hjk
      rw [List.getElem?_set_self hkl] at hj
      cases hj
      simp only [List.getElem?_set_self hlt]
    · rw [List.getElem?_set_ne hjk] at hj
      have := dist_get h.dist hk hj hjk
      simp only at this ⊢
      rw [List.getElem?_set_ne this]
      exact h.obj p (List.mem_of_getElem? hj)
  · have key : ∀ (i : Nat) (y : Nat × List AV), O[i]? = some y → i ≠ k → id ≠ y.1 := fun i y hi hik => dist_get h.dist hk hi (Ne.symm hik)
    refine pairwise_set (fun a b h => Ne.symm h) k h.dist (fun y => ?_) (fun i y hi hik => key i y hi hik)
    by_cases hy : y ∈ O
    · obtain ⟨i, hi⟩ := List.mem_iff_getElem?.1 hy
      by_cases hik : i = k
      · subst hik; exact .inr (.inl hi)
      · exact .inl (key i y hi hik)
    · exact .inr (.inr hy)
theorem Holds.add {σ0 σ : St} {O : List (Nat × List AV)} {A : List Nat} (h : Holds σ0 O A σ) (c : List AV) : Holds σ0 ((σ.objs.length, c) :: O) A ⟨σ.objs ++ [c], σ.opn, σ.gl⟩ := by
  refine ⟨fun i d h1 h2 => ?_, h.opn, by have := h.olen; simp; omega, h.tlen, fun p hp => ?_, .cons (fun q hq => ?_) h.dist, h.tok, h.tdist, h.gl⟩
  · have := h.base i d h1 (fun p hp => h2 p (List.mem_cons_of_mem _ hp))
    rw [List.getElem?_append_left (List.getElem?_eq_some_iff.1 this).1]
    exact this
  · rcases List.mem_cons.1 hp with rfl | hp
    · simp
    · have := h.obj p hp
      simp only
      rw [List.getElem?_append_left (List.getElem?_eq_some_iff.1 this).1]
      exact this
  · have := (List.getElem?_eq_some_iff.1 (h.obj q hq)).1
    simp only
    omega
theorem Holds.drop {σ0 σ : St} {p : Nat × List AV} {O : List (Nat × List AV)} {A : List Nat} (h : Holds σ0 (p :: O) A σ) (hn : σ0.objs.length ≤ p.1) : Holds σ0 O A σ :=
  ⟨fun i d h1 h2 => h.base i d h1 (fun q hq => by
    rcases List.mem_cons.1 hq with rfl | hq
    · have := (List.getElem?_eq_some_iff.1 h1).1; omega
    · exact h2 q hq), h.opn, h.olen, h.tlen, fun q hq => h.obj q (List.mem_cons_of_mem _ hq), (List.pairwise_cons.1 h.dist).2, h.tok, h.tdist, h.gl⟩
theorem Holds.unbring {σ0 σ : St} {id : Nat} {c : List AV} {O : List (Nat × List AV)} {A : List Nat} (h : Holds σ0 ((id, c) :: O) A σ) (h0 : σ0.objs[id]? = some c) : Holds σ0 O A σ :=
  ⟨fun i d h1 h2 => by
    by_cases hi : i = id
    · subst hi
      rw [h0] at h1
      cases h1
      exact h.obj (i, c) List.mem_cons_self
    · exact h.base i d h1 (fun q hq => by
        rcases List.mem_cons.1 hq with rfl | hq
        · exact Ne.symm hi
        · exact h2 q hq), h.opn, h.olen, h.tlen, fun q hq => h.obj q (List.mem_cons_of_mem _ hq), (List.pairwise_cons.1 h.dist).2, h.tok, h.tdist, h.gl⟩
def St.tok (σ : St) (t : Nat) : St := ⟨σ.objs, σ.opn.set t false ++ [true], σ.gl⟩
def St.more (σ : St) : St := ⟨σ.objs, σ.opn ++ [true], σ.gl⟩
theorem opn_more {l : List Bool} {t : Nat} (h : l[t]? = some true) : (l ++ [true])[t]? = some true := by
  rw [List.getElem?_append_left (List.getElem?_eq_some_iff.1 h).1]; exact h
theorem Holds.more {σ0 σ : St} {O : List (Nat × List AV)} {A : List Nat} (h : Holds σ0 O A σ) : Holds σ0 O (σ.opn.length :: A) σ.more := by
  refine ⟨h.base, fun t ht => opn_more (h.opn t ht), h.olen, by have := h.tlen; simp [St.more]; omega, h.obj, h.dist, fun t ht => ?_, .cons (fun t ht => ?_) h.tdist, h.gl⟩
  · rcases List.mem_cons.1 ht with rfl | ht
    · exact ⟨by simp [St.more], h.tlen⟩
    · exact ⟨opn_more (h.tok t ht).1, (h.tok t ht).2⟩
  · have := (List.getElem?_eq_some_iff.1 (h.tok t ht).1).1
    omega
theorem Holds.turn {σ0 σ : St} {O : List (Nat × List AV)} {A : List Nat} (h : Holds σ0 O A σ) (k : Nat) {t : Nat} (hk : A[k]? = some t) : Holds σ0 O (A.set k σ.opn.length) (σ.tok t) := by
  have hkl : k < A.length := (List.getElem?_eq_some_iff.1 hk).1
  have key : ∀ u : Nat, σ.opn[u]? = some true → u ≠ t → (σ.tok t).opn[u]? = some true := fun u hu hut => by
    simp only [St.tok]
    rw [List.getElem?_append_left (by simpa using (List.getElem?_eq_some_iff.1 hu).1), List.getElem?_set_ne (Ne.symm hut)]
    exact hu
  have ht := h.tok t (List.mem_of_getElem? hk)
  refine ⟨h.base, fun u hu => key u (h.opn u hu) (fun e => ?_), h.olen, by have := h.tlen; simp [St.tok]; omega, h.obj, h.dist, fun u hu => ?_, ?_, h.gl⟩
  · subst e
    have := (List.getElem?_eq_some_iff.1 hu).1
    omega
  · obtain ⟨j, hj⟩ := List.mem_iff_getElem?.1 hu
    by_cases hjk : k = j
    · subst hjk
      rw [List.getElem?_set_self hkl] at hj
      cases hj
      exact ⟨by simp [St.tok], h.tlen⟩
    · rw [List.getElem?_set_ne hjk] at hj
      exact ⟨key u (h.tok u (List.mem_of_getElem? hj)).1 (Ne.symm (tdist_get h.tdist hk hj hjk)), (h.tok u (List.mem_of_getElem? hj)).2⟩
  · have hnew : ∀ u ∈ A, σ.opn.length ≠ u := fun u hu => by
      have := (List.getElem?_eq_some_iff.1 (h.tok u hu).1).1
      omega
    refine pairwise_set (fun a b h => Ne.symm h) k h.tdist (fun y => ?_) (fun i y hi _ => hnew y (List.mem_of_getElem? hi))
    by_cases hy : y ∈ A
    · exact .inl (hnew y hy)
    · exact .inr (.inr hy)
theorem Holds.noT {σ0 σ : St} {O : List (Nat × List AV)} {A : List Nat} (h : Holds σ0 O A σ) : Holds σ0 O [] σ :=
  ⟨h.base, h.opn, h.olen, h.tlen, h.obj, h.dist, fun u hu => (by cases hu), .nil, h.gl⟩
theorem Holds.pick {σ0 σ : St} {O O' : List (Nat × List AV)} {A A' : List Nat} (h : Holds σ0 O A σ) (ho : ∀ p ∈ O', p ∈ O) (hd : O'.Pairwise fun p q => p.1 ≠ q.1) (hn : ∀ p ∈ O, σ0.objs.length ≤ p.1 ∨ ∃ q ∈ O', q.1 = p.1) (ht : ∀ t ∈ A', t ∈ A) (hdt : A'.Pairwise fun a b => a ≠ b) : Holds σ0 O' A' σ :=
  ⟨fun i d h1 h2 => h.base i d h1 (fun p hp => by
    rcases hn p hp with hn | ⟨q, hq, he⟩
    · have := (List.getElem?_eq_some_iff.1 h1).1; omega
    · rw [← he]; exact h2 q hq), h.opn, h.olen, h.tlen, fun p hp => h.obj p (ho p hp), hd, fun t hh => h.tok t (ht t hh), hdt, h.gl⟩

section
variable {P : Program} {Ty : TypeId → Option TI} {n : Nat} {σ : St} {ops : Array Oper}
theorem ACall.pure {g : FuncId} {args : List AV} {b : AV} (h : ACall P g args σ (fun a σ' => Wk (cutAV (idl σ.objs.length) (idl σ.opn.length) a) b ∧ Holds σ [] [] σ')) : ACall P g args σ (fun a σ' => a = b ∧ σ' = σ) :=
  h.cut fun a σ' ⟨ha, hH⟩ => ⟨σ, b, rfl, rfl, rfl, hH.opn, fun id c hc => ⟨hH.base id c hc (fun p hp => by cases hp), .inl hc⟩, ha, rfl, rfl⟩
def St.puts (σ : St) (M : List (Nat × List AV)) : St := ⟨M.foldl (fun o p => o.set p.1 p.2) σ.objs, σ.opn, σ.gl⟩
theorem puts_len (M : List (Nat × List AV)) : ∀ o : List (List AV), (M.foldl (fun o p => o.set p.1 p.2) o).length = o.length := by
  induction M with
  | nil => intro o; rfl
  | cons p M ih => intro o; rw [List.foldl_cons, ih]; simp
theorem puts_get (M : List (Nat × List AV)) : ∀ (o : List (List AV)) (i : Nat) (c : List AV), (M.foldl (fun o p => o.set p.1 p.2) o)[i]? = some c → (i, c) ∈ M ∨ (o[i]? = some c ∧ ∀ p ∈ M, p.1 ≠ i) := by
  induction M with
  | nil => intro o i c h; exact .inr ⟨h, fun p hp => by cases hp⟩
  | cons p M ih =>
    intro o i c h
    rw [List.foldl_cons] at h
    rcases ih _ i c h with h1 | ⟨h1, h2⟩
    · exact .inl (List.mem_cons_of_mem _ h1)
    · rw [List.getElem?_set] at h1
      split at h1
      · rename_i he
        split at h1
        · cases h1; subst he; exact .inl List.mem_cons_self
        · cases h1
      · rename_i he
        exact .inr ⟨h1, fun q hq => by
          rcases List.mem_cons.1 hq with rfl | hq
          · exact he
          · exact h2 q hq⟩
theorem ACall.out {g : FuncId} {args : List AV} {b : AV} (M : List (Nat × List AV)) (hc : ∀ p ∈ M, ∀ ρ κ, cutL ρ κ p.2 = p.2) (h : ACall P g args σ (fun a σ' => Wk (cutAV (idl σ.objs.length) (idl σ.opn.length) a) b ∧ Holds σ M [] σ')) : ACall P g args σ (fun a σ' => a = b ∧ σ' = σ.puts M) :=
  h.cut fun a σ' ⟨ha, hH⟩ => ⟨σ.puts M, b, puts_len M _, rfl, rfl, hH.opn, fun id c hid => by
    rcases puts_get M σ.objs id c hid with h1 | ⟨h1, h2⟩
    · exact ⟨hH.obj _ h1, .inr (hc _ h1 _ _)⟩
    · exact ⟨hH.base id c h1 h2, .inl h1⟩, ha, rfl, rfl⟩
theorem ACall.new {g : FuncId} {args : List AV} {c : List AV} (hc : ∀ ρ κ, cutL ρ κ c = c) (h : ACall P g args σ (fun a σ' => ∃ id, a = .ref id 0 ∧ σ.objs.length ≤ id ∧ Holds σ [(id, c)] [] σ')) : ACall P g args σ (fun a σ' => a = .ref σ.objs.length 0 ∧ σ' = ⟨σ.objs ++ [c], σ.opn, σ.gl⟩) :=
  h.ren fun a σ' ⟨id, ha, hid, hH⟩ => by
    subst ha
    refine ⟨⟨σ.objs ++ [c], σ.opn, σ.gl⟩, .ref σ.objs.length 0, fun i => if i = id then some σ.objs.length else idl σ.objs.length i, idl σ.opn.length, ⟨fun i i' j h1 h2 => ?_, idl_inj _, fun i hi => ?_, fun i hi => by simp [idl, hi], fun i j h => ?_, fun t u h => (idl_lt h).2, Nat.le_refl _, rfl, fun j d hj => ?_, fun t u h hu => ?_⟩, ?_, rfl, rfl⟩
    · try simp only at h1 h2
      split at h1 <;> split at h2
      · rename_i e1 e2; rw [e1, e2]
      · have := (idl_lt h2).2; cases h1; omega
      · have := (idl_lt h1).2; cases h2; omega
      · exact idl_inj _ _ _ _ h1 h2
    · try simp only
      rw [if_neg (by omega)]
      simp [idl, hi]
    · try simp only at h
      split at h
      · cases h; simp
      · have := (idl_lt h).2; simp; omega
    · by_cases hlt : j < σ.objs.length
      · simp only at hj
        rw [List.getElem?_append_left hlt] at hj
        refine ⟨j, d, by rw [if_neg (by omega)]; simp [idl, hlt], hH.base j d hj (fun p hp => ?_), .inl ⟨hj, rfl⟩⟩
        simp at hp
        subst hp
        simp only
        omega
      · have hj2 := (List.getElem?_eq_some_iff.1 hj).1
        simp at hj2
        have : j = σ.objs.length := by omega
        subst this
        simp at hj
        subst hj
        exact ⟨id, c, by simp, hH.obj (id, c) (by simp), .inr (hc _ _).symm⟩
    · obtain ⟨rfl, _⟩ := idl_lt h
      exact hH.opn t hu
    · simp only [cutAV, if_true]
      exact Wk.refl _
theorem ACall.app {g : FuncId} {args : List AV} {sz : Nat} {es : List AV} (hc : ∀ ρ κ, cutL ρ κ es = es) (h : ACall P g args σ (fun a σ' => ∃ t, a = .sl (.own t) sz es ∧ Holds σ [] [t] σ')) : ACall P g args σ (fun a σ' => a = .sl (.own σ.opn.length) sz es ∧ σ' = σ.more) :=
  h.ren fun a σ' ⟨t0, ha, hH⟩ => by
    subst ha
    obtain ⟨ho, hge⟩ := hH.tok t0 (by simp)
    refine ⟨σ.more, .sl (.own σ.opn.length) sz es, idl σ.objs.length, fun i => if i = t0 then some σ.opn.length else idl σ.opn.length i, ⟨idl_inj _, fun i i' j h1 h2 => ?_, fun i hi => by simp [idl, hi], fun i hi => ?_, fun i j h => (idl_lt h).2, fun t u h => ?_, by simp [St.more], rfl, fun j d hj => ?_, fun t u h hu => ?_⟩, ?_, rfl, rfl⟩
    · try simp only at h1 h2
      split at h1 <;> split at h2
      · rename_i e1 e2; rw [e1, e2]
      · have := (idl_lt h2).2; cases h1; omega
      · have := (idl_lt h1).2; cases h2; omega
      · exact idl_inj _ _ _ _ h1 h2
    · try simp only
      rw [if_neg (by omega)]
      simp [idl, hi]
    · try simp only at h
      split at h
      · cases h; simp [St.more]
      · have := (idl_lt h).2; simp [St.more]; omega
    · have hlt : j < σ.objs.length := (List.getElem?_eq_some_iff.1 hj).1
      exact ⟨j, d, by simp [idl, hlt], hH.base j d hj (fun p hp => by cases hp), .inl ⟨hj, rfl⟩⟩
    · try simp only at h
      split at h
      · rename_i e; subst e; exact ho
      · obtain ⟨rfl, hlt⟩ := idl_lt h
        refine hH.opn t ?_
        simp only [St.more] at hu
        rw [List.getElem?_append_left hlt] at hu
        exact hu
    · simp only [cutAV, cutTok, if_true, hc]
      exact Wk.refl _
theorem ACall.unapp {g : FuncId} {args : List AV} {sz : Nat} {es : List AV} (hc : ∀ ρ κ, cutL ρ κ es = es) (h : ACall P g args σ (fun a σ' => a = .sl (.own σ.opn.length) sz es ∧ σ' = σ.more)) : ACall P g args σ (fun a σ' => a = .sl .no sz es ∧ σ' = σ) :=
  h.cut fun a σ' ⟨ha, hs⟩ => ⟨σ, .sl .no sz es, rfl, rfl, rfl, fun t ht => by subst hs; exact opn_more ht, fun id c hid => by subst hs; exact ⟨hid, .inl hid⟩, by
    subst ha
    simp only [cutAV, cutTok, hc]
    rw [show idl σ.opn.length σ.opn.length = none by simp [idl]]
    exact Wk.refl _, rfl, rfl⟩
theorem acall_start (hT : TyOk P Ty) {g : FuncId} {fn : Func} {c : Code} {args : List AV} {K : AV → St → Prop} (hf : P.funcs[g]? = some fn) (hn : fn.name ≠ "runtime.NumGoroutine") (hb : fn.body = some c) (hl : args.length ≤ fn.ntmps)
    (h : AWP P fn.ntmps c (retQ Ty fn.results.toList K) (fm (fmArgs 0 args)) σ) : ACall P g args σ K :=
  acall_intro hT hf hn hb hl (by rw [frame0_fm]; exact h)

def OpP (P : Program) (o : Oper) (fr : Nat → AV) (a : AV) : Prop := ∀ τ, OpS P o fr τ (fun a' τ' => a' = a ∧ τ' = τ)
theorem OpP.of_aop (hT : TyOk P Ty) {mu : Bool} {o : Oper} {fr : Nat → AV} (hc : callOf o = none) {a b : AV} (h : ∀ τ, aop Ty mu o (aeval fr) τ = some (a, τ)) (hw : Wk a b) : OpP P o fr b :=
  fun τ => OpS.of_aop hT hc (aeval fr) (fun x _ => Wk.refl _) (h τ) hw
theorem OpP.of_aop' (hT : TyOk P Ty) {mu : Bool} {o : Oper} {fr : Nat → AV} (hc : callOf o = none) {a : AV} (h : ∀ τ, aop Ty mu o (aeval fr) τ = some (a, τ)) : OpP P o fr a := OpP.of_aop hT hc h (Wk.refl _)
theorem OpP.of_call {o : Oper} {fr : Nat → AV} {f : Operand} {xs : List Operand} {g : FuncId} {first cap args : List AV} {b : AV} (hc : callOf o = some (f, xs)) (hf : aeval fr f = .fn (.func g) first cap) (hargs : WkL (first ++ xs.map (aeval fr) ++ cap) args) (hcall : ∀ τ, ACall P g args τ (fun a τ' => a = b ∧ τ' = τ)) : OpP P o fr b :=
  fun τ => OpS.of_call hc hf hargs (hcall τ)

theorem awp_region {Q : AExit → (Nat → AV) → St → Prop} {id : Nat} {fr : Nat → AV} (hd : allDst n ops = true) (h : wpo P n ops (Q .normal) ops.toList fr σ) : AWP P n (.region id ops false) Q fr σ := awp_region0 hd h
theorem wpo_nil {K : (Nat → AV) → St → Prop} {fr : Nat → AV} (h : K fr σ) : wpo P n ops K [] fr σ := h
theorem wpo_any {K : (Nat → AV) → St → Prop} {o : Oper} {rest : List Oper} {fr : Nat → AV} {R : AV → St → Prop} (hd : dstOk n o.dst) (hg : guardOf ops o fr = some true) (ho : OpS P o fr σ R) (h : ∀ a σ', R a σ' → wpo P n ops K rest (putO fr o.dst a) σ') : wpo P n ops K (o :: rest) fr σ := by
  refine ⟨hd, ?_⟩
  rw [hg]
  exact ho.mono h
theorem wpo_lt {α β : Type} {z : α} {k : α → Option β} {r : β} (H : lt z k = some r) (enc : α → AV) {K : (Nat → AV) → St → Prop} {o : Oper} {rest : List Oper} {l : List (Nat × AV)} {t : Nat} (hd : o.dst = some t) (hn : Nat.ble (t + 1) n = true) (hg : guardOf ops o (fm l) = some true)
    (ho : OpP P o (fm l) (enc z)) (h : ∀ x, k x = some r → wpo P n ops K rest (fm ((t, enc x) :: l)) σ) : wpo P n ops K (o :: rest) (fm l) σ := by
  refine wpo_any (by rw [hd]; exact Nat.le_of_ble_eq_true hn) hg (ho σ) ?_
  rintro a σ' ⟨rfl, rfl⟩
  rw [hd]
  exact h z H
theorem wpo_bd {α β : Type} {z : Option α} {k : α → Option β} {r : β} (H : z.bind k = some r) (enc : α → AV) {K : (Nat → AV) → St → Prop} {o : Oper} {rest : List Oper} {l : List (Nat × AV)} {t : Nat} (hd : o.dst = some t) (hn : Nat.ble (t + 1) n = true) (hg : guardOf ops o (fm l) = some true)
    (ho : ∀ x, z = some x → OpP P o (fm l) (enc x)) (h : ∀ x, z = some x → k x = some r → wpo P n ops K rest (fm ((t, enc x) :: l)) σ) : wpo P n ops K (o :: rest) (fm l) σ := by
  obtain ⟨x, hx, H⟩ := Option.bind_eq_some_iff.1 H
  refine wpo_any (by rw [hd]; exact Nat.le_of_ble_eq_true hn) hg (ho x hx σ) ?_
  rintro a σ' ⟨rfl, rfl⟩
  rw [hd]
  exact h x hx H
theorem wpo_bdr {α β : Type} {z : Option α} {k : α → Option β} {r : β} (H : z.bind k = some r) (enc : α → AV) {K : (Nat → AV) → St → Prop} {o : Oper} {rest : List Oper} {l : List (Nat × AV)} {t : Nat} (hd : o.dst = some t) (hn : Nat.ble (t + 1) n = true) (hg : guardOf ops o (fm l) = some true)
    (ho : ∀ x, z = some x → OpS P o (fm l) σ (fun a τ => a = enc x ∧ τ = σ)) (h : ∀ x, z = some x → k x = some r → wpo P n ops K rest (fm ((t, enc x) :: l)) σ) : wpo P n ops K (o :: rest) (fm l) σ := by
  obtain ⟨x, hx, H⟩ := Option.bind_eq_some_iff.1 H
  refine wpo_any (by rw [hd]; exact Nat.le_of_ble_eq_true hn) hg (ho x hx) ?_
  rintro a σ' ⟨rfl, rfl⟩
  rw [hd]
  exact h x hx H
theorem wpo_mv {a : AV} {K : (Nat → AV) → St → Prop} {o : Oper} {rest : List Oper} {l : List (Nat × AV)} {t : Nat} (hd : o.dst = some t) (hn : Nat.ble (t + 1) n = true) (hg : guardOf ops o (fm l) = some true)
    (ho : OpP P o (fm l) a) (h : wpo P n ops K rest (fm ((t, a) :: l)) σ) : wpo P n ops K (o :: rest) (fm l) σ := by
  refine wpo_any (by rw [hd]; exact Nat.le_of_ble_eq_true hn) hg (ho σ) ?_
  rintro a σ' ⟨rfl, rfl⟩
  rw [hd]
  exact h
theorem wpo_skip {K : (Nat → AV) → St → Prop} {o : Oper} {rest : List Oper} {l : List (Nat × AV)} {t : Nat} (hd : o.dst = some t) (hn : Nat.ble (t + 1) n = true) (hg : guardOf ops o (fm l) = some false) (h : wpo P n ops K rest (fm ((t, .tup []) :: l)) σ) : wpo P n ops K (o :: rest) (fm l) σ := by
  refine ⟨by rw [hd]; exact Nat.le_of_ble_eq_true hn, ?_⟩
  rw [hg]
  simp only [hd, putO]
  exact h
theorem wpo_s {R : AV → St → Prop} {K : (Nat → AV) → St → Prop} {o : Oper} {rest : List Oper} {l : List (Nat × AV)} {t : Nat} (hd : o.dst = some t) (hn : Nat.ble (t + 1) n = true) (hg : guardOf ops o (fm l) = some true)
    (ho : OpS P o (fm l) σ R) (h : ∀ a τ, R a τ → wpo P n ops K rest (fm ((t, a) :: l)) τ) : wpo P n ops K (o :: rest) (fm l) σ := by
  refine wpo_any (by rw [hd]; exact Nat.le_of_ble_eq_true hn) hg ho ?_
  intro a σ' hr
  rw [hd]
  exact h a σ' hr
theorem wpo_s1 {a : AV} {τ : St} {K : (Nat → AV) → St → Prop} {o : Oper} {rest : List Oper} {l : List (Nat × AV)} {t : Nat} (hd : o.dst = some t) (hn : Nat.ble (t + 1) n = true) (hg : guardOf ops o (fm l) = some true)
    (ho : OpS P o (fm l) σ (fun a' τ' => a' = a ∧ τ' = τ)) (h : wpo P n ops K rest (fm ((t, a) :: l)) τ) : wpo P n ops K (o :: rest) (fm l) σ := by
  refine wpo_s hd hn hg ho ?_
  rintro _ _ ⟨rfl, rfl⟩
  exact h
theorem wpo_s0 {a : AV} {τ : St} {K : (Nat → AV) → St → Prop} {o : Oper} {rest : List Oper} {l : List (Nat × AV)} (hd : o.dst = none) (hg : guardOf ops o (fm l) = some true)
    (ho : OpS P o (fm l) σ (fun a' τ' => a' = a ∧ τ' = τ)) (h : wpo P n ops K rest (fm l) τ) : wpo P n ops K (o :: rest) (fm l) σ := by
  refine wpo_any (by rw [hd]; trivial) hg ho ?_
  rintro a σ' ⟨rfl, rfl⟩
  rw [hd]
  exact h
theorem if_split {b : Bool} {β : Type} {A B : Option β} {r : β} {G : Prop} (H : (if b = true then A else B) = some r) (h1 : b = true → A = some r → G) (h2 : b = false → B = some r → G) : G := by
  cases b with
  | true => exact h1 rfl (by simpa using H)
  | false => exact h2 rfl (by simpa using H)
theorem awp_if {b : Bool} {β : Type} {A B : Option β} {r : β} (H : (if b = true then A else B) = some r) {c : Operand} {x y : Code} {Q : AExit → (Nat → AV) → St → Prop} {fr : Nat → AV} (hb : aeval fr c = .bool b) (h1 : A = some r → AWP P n x Q fr σ) (h2 : B = some r → AWP P n y Q fr σ) : AWP P n (.cond c x y) Q fr σ :=
  awp_cond hb (fun hb => h1 (by subst hb; simpa using H)) (fun hb => h2 (by subst hb; simpa using H))
theorem awp_true {c : Operand} {x y : Code} {Q : AExit → (Nat → AV) → St → Prop} {fr : Nat → AV} (hb : aeval fr c = .bool true) (h1 : AWP P n x Q fr σ) : AWP P n (.cond c x y) Q fr σ := awp_cond hb (fun _ => h1) (fun h => by cases h)
theorem awp_false {c : Operand} {x y : Code} {Q : AExit → (Nat → AV) → St → Prop} {fr : Nat → AV} (hb : aeval fr c = .bool false) (h1 : AWP P n y Q fr σ) : AWP P n (.cond c x y) Q fr σ := awp_cond hb (fun h => by cases h) (fun _ => h1)
theorem AWP.fm {c : Code} {Q : AExit → (Nat → AV) → St → Prop} {fr : Nat → AV} (l : List (Nat × AV)) (k : WkF fr (Va.fm l)) (h : AWP P n c Q (Va.fm l) σ) : AWP P n c Q fr σ := h.wk k
theorem AWP.more {c : Code} {Q : AExit → (Nat → AV) → St → Prop} {l : List (Nat × AV)} (h : AWP P n c Q (Va.fm l) σ.more) : AWP P n c Q (Va.fm l) σ := fun w0 G a w hS => by
  obtain ⟨hle, hI⟩ := hS.inv.closed .no
  refine wp_mono (h w0 _ a w ⟨hI, hS.frm.mono hle, hS.size, hS.defers⟩) ?_
  rintro e a' w' ⟨ae, fr', σ', G', k1, k2, k3, k4⟩
  exact ⟨ae, fr', σ', G', k1, hle.trans k2, k3, k4⟩
theorem AWP.tokNil {c : Code} {Q : AExit → (Nat → AV) → St → Prop} {l : List (Nat × AV)} (t sz : Nat) (ht : Va.fm l t = .nils ∨ (∃ e, Va.fm l t = .sl .full sz e ∧ e = []))  (h : AWP P n c Q (Va.fm ((t, .sl (.own σ.opn.length) sz []) :: l)) σ.more) : AWP P n c Q (Va.fm l) σ := fun w0 G a w hS => by
  obtain ⟨hle, hI⟩ := hS.inv.closed .no
  refine wp_mono (h w0 _ a w ⟨hI, fun u => ?_, hS.size, hS.defers⟩) ?_
  · simp only [Va.fm, upd]
    split
    · rename_i e
      subst e
      have hr := hS.frm u
      rcases ht with ht | ⟨e, ht, rfl⟩
      · rw [ht] at hr
        cases hv : a.tmps.getD u undef <;> rw [hv] at hr <;> cases hr
        exact .sl0 none 0 _ _ (Nat.zero_le _) (.inr ⟨rfl, Nat.lt_succ_self _⟩)
      · rw [ht] at hr
        generalize a.tmps.getD u undef = v at hr
        cases hr with
        | sl b o c t sz es val hc hm hz hf h ht => exact .sl0 _ _ _ _ hm (.inr ⟨ht.1.symm, Nat.lt_succ_self _⟩)
        | sl0 A c t sz hm ht => exact .sl0 _ _ _ _ hm (.inr ⟨(ht.resolve_left (by simp)).1, Nat.lt_succ_self _⟩)
    · exact (hS.frm u).mono hle
  · rintro e a' w' ⟨ae, fr', σ', G', k1, k2, k3, k4⟩
    exact ⟨ae, fr', σ', G', k1, hle.trans k2, k3, k4⟩
theorem inj_inl {α β : Type} {a : α} {y : α ⊕ β} (H : some (Sum.inl a) = some y) : y = .inl a := by cases H; rfl
theorem inj_inr {α β : Type} {a : β} {y : α ⊕ β} (H : some (Sum.inr a) = some y) : y = .inr a := by cases H; rfl
end

def eI (n : Int) : AV := .int .i64 n
def eK (k : IntKind) (n : Int) : AV := .int k n
def eU (k : IntKind) {w : Nat} (x : BitVec w) : AV := .int k (x.toNat : Int)
def eB (b : Bool) : AV := .bool b
def mkB (l : List (BitVec 8)) : ByteArray := ⟨(l.map UInt8.ofBitVec).toArray⟩
def eS (s : List (BitVec 8)) : AV := .str (mkB s)

def w64 (n : Int) : Int := IntKind.i64.wrap n
theorem w64_eq {n : Int} (h1 : -9223372036854775808 ≤ n) (h2 : n ≤ 9223372036854775807) : w64 n = n := by unfold w64; rw [IntKind.wrap_i64]; omega
def and64 (x y : Int) : Int := bits .and .i64 x y
def or64 (x y : Int) : Int := bits .or .i64 x y
def xor64 (x y : Int) : Int := bits .xor .i64 x y
def andNot64 (x y : Int) : Int := bits .andNot .i64 x y
def not64 (x : Int) : Int := bits .xor .i64 (-1) x
def neg64 (x : Int) : Int := w64 (0 - x)
def shl64 (x : Int) (n : Nat) : Int := w64 (x * 2 ^ min n 64)
def shr64 (x : Int) (n : Nat) : Int := x.fdiv (2 ^ min n 64)
def quo64 (x y : Int) : Int := w64 (x.tdiv y)
def dv (y : Int) : Option Int := if y = 0 then none else some y
def dvU {w : Nat} (y : BitVec w) : Option (BitVec w) := if y = 0#w then none else some y
def sc (y : Int) : Option Nat := if y < 0 then none else some y.toNat

section
variable {P : Program} {Ty : TypeId → Option TI} {n : Nat} {σ : St} {ops : Array Oper} {fr : Nat → AV} {d : Option Tmp} {ty : TypeId} {pos : String} {af : Array Edge} {g : Option (Nat × Bool)} {ox oy : Operand} {T T' : TypeId}

theorem o_ar (hT : TyOk P Ty) {op : BinOp} {k : IntKind} {x y : Int} {a : AV} (hx : aeval fr ox = .int k x) (hy : aeval fr oy = .int k y) (h : aarith op k x y = some a) : OpP P ⟨d, .binOp op T ox oy T', ty, pos, af, g⟩ fr a := by
  have hne : op ≠ .shl ∧ op ≠ .shr := ⟨(by rintro rfl; cases h), (by rintro rfl; cases h)⟩
  refine OpP.of_aop' hT (mu := false) rfl (fun τ => ?_)
  simp only [aop, hx, hy]
  have : abin' Ty op T ox oy (.int k x) (.int k y) = some a := by
    simp only [abin', abin]
    split
    · exact absurd rfl hne.1
    · exact absurd rfl hne.2
    · simpa using h
  rw [this]; rfl
theorem o_un (hT : TyOk P Ty) {op : UnOp} {x a : AV} (hx : aeval fr ox = x) (h : aun op x = some a) : OpP P ⟨d, .unOp op T ox, ty, pos, af, g⟩ fr a :=
  OpP.of_aop' hT (mu := false) rfl (fun τ => by simp only [aop, hx, h]; rfl)
theorem o_mv (hT : TyOk P Ty) {a b : AV} (hx : aeval fr ox = a) (hw : Wk a b) : OpP P ⟨d, .move ox, ty, pos, af, g⟩ fr b := OpP.of_aop hT (mu := false) rfl (fun τ => rfl) (by rw [hx]; exact hw)
theorem o_as (hT : TyOk P Ty) {a b : AV} (hx : aeval fr ox = a) (hw : Wk a b) : OpP P ⟨d, .assign ox, ty, pos, af, g⟩ fr b := OpP.of_aop hT (mu := false) rfl (fun τ => rfl) (by rw [hx]; exact hw)
theorem o_pick_t (hT : TyOk P Ty) {oc : Operand} {a b : AV} (hc : aeval fr oc = .bool true) (hx : aeval fr ox = a) (hw : Wk a b) : OpP P ⟨d, .pick oc ox oy, ty, pos, af, g⟩ fr b := OpP.of_aop hT (mu := false) rfl (fun τ => by simp only [aop, hc, hx]; rfl) hw
theorem o_pick_f (hT : TyOk P Ty) {oc : Operand} {a b : AV} (hc : aeval fr oc = .bool false) (hx : aeval fr oy = a) (hw : Wk a b) : OpP P ⟨d, .pick oc ox oy, ty, pos, af, g⟩ fr b := OpP.of_aop hT (mu := false) rfl (fun τ => by simp only [aop, hc, hx]; rfl) hw
theorem o_ext (hT : TyOk P Ty) {vs : List AV} {i : Nat} {a : AV} (hx : aeval fr ox = .tup vs) (h : vs[i]? = some a) : OpP P ⟨d, .extract ox i, ty, pos, af, g⟩ fr a := OpP.of_aop' hT (mu := false) rfl (fun τ => by simp only [aop, hx, aext, h]; rfl)
theorem o_c (hT : TyOk P Ty) (mu : Bool) {o : Oper} {a : AV} (hc : callOf o = none) (h : ∀ τ, aop Ty mu o (aeval fr) τ = some (a, τ)) : OpP P o fr a := OpP.of_aop' hT hc h
theorem mkB_size (s : List (BitVec 8)) : (mkB s).size = s.length := by simp [mkB, ByteArray.size]
theorem mkB_data (s : List (BitVec 8)) : (mkB s).data.toList = s.map UInt8.ofBitVec := by simp [mkB]
theorem ofBV_inj {x y : BitVec 8} (h : UInt8.ofBitVec x = UInt8.ofBitVec y) : x = y := by cases h; rfl
theorem mkB_inj {s t : List (BitVec 8)} : mkB s = mkB t ↔ s = t := by
  constructor
  · intro h
    have h2 : (mkB s).data.toList = (mkB t).data.toList := by rw [h]
    rw [mkB_data, mkB_data] at h2
    exact (List.map_inj_right (fun x y => ofBV_inj)).1 h2
  · rintro rfl; rfl
theorem mkB_of (s : ByteArray) : mkB (s.data.toList.map (·.toBitVec)) = s := by
  apply ByteArray.ext
  apply Array.ext'
  rw [mkB_data, List.map_map]
  exact List.map_id'' (fun x => rfl) _
def sless (s t : List (BitVec 8)) : Bool := Op.bytesLess (mkB s).toList (mkB t).toList
theorem o_str (hT : TyOk P Ty) {op : BinOp} {x y : ByteArray} {a : AV} (hx : aeval fr ox = .str x) (hy : aeval fr oy = .str y) (h : astr op x y = some a) : OpP P ⟨d, .binOp op T ox oy T', ty, pos, af, g⟩ fr a :=
  OpP.of_aop' hT (mu := false) rfl (fun τ => by simp only [aop, hx, hy, abin', abin, h]; rfl)
theorem o_eql_s (hT : TyOk P Ty) {x y : List (BitVec 8)} (hx : aeval fr ox = eS x) (hy : aeval fr oy = eS y) : OpP P ⟨d, .binOp .eql T ox oy T', ty, pos, af, g⟩ fr (eB (x == y)) :=
  o_str hT hx hy (by simp only [astr, eB, Option.some.injEq, AV.bool.injEq]; rw [Bool.eq_iff_iff]; simp [mkB_inj])
theorem o_neq_s (hT : TyOk P Ty) {x y : List (BitVec 8)} (hx : aeval fr ox = eS x) (hy : aeval fr oy = eS y) : OpP P ⟨d, .binOp .neq T ox oy T', ty, pos, af, g⟩ fr (eB (x != y)) :=
  o_str hT hx hy (by simp only [astr, eB, Option.some.injEq, AV.bool.injEq, bne]; congr 1; rw [Bool.eq_iff_iff]; simp [mkB_inj])
def cat (x y : List (BitVec 8)) : Option (List (BitVec 8)) := if x.length + y.length ≤ 9223372036854775807 then some (x ++ y) else none
end

def eL {α : Type} (sz : Nat) (e : α → AV) (l : List α) : AV := .sl .no sz (l.map e)
def cL {α : Type} (e : α → AV) (l : List α) : List AV := flat (l.map e)
def eA {α : Type} (e : α → AV) (l : List α) : AV := .agg (cL e l)
def eT {α : Type} (t sz : Nat) (e : α → AV) (l : List α) : AV := .sl (.own t) sz (l.map e)
def eF {α : Type} (sz : Nat) (e : α → AV) (l : List α) : AV := .sl .full sz (l.map e)

structure Enc (Ty : TypeId → Option TI) (T : TypeId) (sz : Nat) {α : Type} (e : α → AV) : Prop where
  ty : szOf Ty T = sz
  pos : sz ≠ 0
  len : ∀ x, (e x).cells.length = sz
  agg : isAggTD (tdOf Ty T) = true → ∀ x, e x = .agg (e x).cells
  one : isAggTD (tdOf Ty T) = false → ∀ x, (e x).cells = [e x]
  flat : ∀ x, (e x).cells.all flatAV = true
  cut : ∀ nl nt x, cutAV nl nt (e x) = e x
theorem enc_i64 {Ty : TypeId → Option TI} {T : TypeId} (h : tdOf Ty T = .int .i64) (hs : szOf Ty T = 1) : Enc Ty T 1 eI := ⟨hs, by decide, fun _ => rfl, fun ha => (by rw [h] at ha; cases ha), fun _ _ => rfl, fun _ => rfl, fun _ _ _ => rfl⟩
theorem enc_u {Ty : TypeId → Option TI} {T : TypeId} {k : IntKind} {w : Nat} (h : tdOf Ty T = .int k) (hs : szOf Ty T = 1) : Enc Ty T 1 (@eU k w) := ⟨hs, by decide, fun _ => rfl, fun ha => (by rw [h] at ha; cases ha), fun _ _ => rfl, fun _ => rfl, fun _ _ _ => rfl⟩
theorem enc_b {Ty : TypeId → Option TI} {T : TypeId} (h : tdOf Ty T = .bool) (hs : szOf Ty T = 1) : Enc Ty T 1 eB := ⟨hs, by decide, fun _ => rfl, fun ha => (by rw [h] at ha; cases ha), fun _ _ => rfl, fun _ => rfl, fun _ _ _ => rfl⟩
theorem enc_s {Ty : TypeId → Option TI} {T : TypeId} (h : tdOf Ty T = .str) (hs : szOf Ty T = 1) : Enc Ty T 1 eS := ⟨hs, by decide, fun _ => rfl, fun ha => (by rw [h] at ha; cases ha), fun _ _ => rfl, fun _ => rfl, fun _ _ _ => rfl⟩
theorem cutL_enc {α : Type} {e : α → AV} (h : ∀ nl nt x, cutAV nl nt (e x) = e x) (nl nt : Nat → Option Nat) (l : List α) : cutL nl nt (l.map e) = l.map e := by
  rw [cutL_map, List.map_map]
  exact List.map_congr_left (fun x _ => h nl nt x)
theorem cut_eL {α : Type} {e : α → AV} (h : ∀ nl nt x, cutAV nl nt (e x) = e x) (sz : Nat) (nl nt : Nat → Option Nat) (l : List α) : cutAV nl nt (eL sz e l) = eL sz e l := by
  simp only [eL, cutAV, cutL_enc h, cutTok]
theorem enc_l {Ty : TypeId → Option TI} {T E : TypeId} (h : tdOf Ty T = .slice E) (hs : szOf Ty T = 1) {α : Type} {e : α → AV} {sz : Nat} (he : ∀ nl nt x, cutAV nl nt (e x) = e x) : Enc Ty T 1 (eL sz e) :=
  ⟨hs, by decide, fun _ => rfl, fun ha => (by rw [h] at ha; cases ha), fun _ _ => rfl, fun _ => rfl, fun nl nt x => cut_eL he sz nl nt x⟩
theorem cells_cut {α : Type} {e : α → AV} (h : ∀ nl nt x, cutAV nl nt (e x) = e x) (nl nt : Nat → Option Nat) (x : α) : cutL nl nt (e x).cells = (e x).cells := by
  by_cases hagg : ∃ cs, e x = .agg cs
  · obtain ⟨cs, hc⟩ := hagg
    have := h nl nt x
    rw [hc] at this ⊢
    simp only [cutAV, AV.agg.injEq] at this
    exact this
  · have hn : ∀ cs, e x ≠ .agg cs := fun cs he => hagg ⟨cs, he⟩
    have hc : (e x).cells = [e x] := by cases he : e x <;> first | rfl | exact absurd he (hn _)
    rw [hc]
    simp only [cutL, h]
theorem cutL_append (nl nt : Nat → Option Nat) (l m : List AV) : cutL nl nt (l ++ m) = cutL nl nt l ++ cutL nl nt m := by simp [cutL_map]
theorem cut_cL {α : Type} {e : α → AV} (h : ∀ nl nt x, cutAV nl nt (e x) = e x) (nl nt : Nat → Option Nat) : ∀ l : List α, cutL nl nt (cL e l) = cL e l
  | [] => rfl
  | x :: l => by
    have := cut_cL h nl nt l
    simp only [cL, List.map_cons, flat_cons, cutL_append, cells_cut h] at this ⊢
    rw [this]
theorem wk_no {t : Tok} {sz : Nat} {es : List AV} : Wk (.sl t sz es) (.sl .no sz es) := by
  intro G v h
  cases h with
  | sl b o c t sz es val hc hm hz hf h ht => exact .sl b o c .no sz es val hc hm hz hf h trivial
  | sl0 A c t sz hm ht => exact .sl0 A c .no sz hm (.inl rfl)
theorem wk_nils (sz : Nat) : Wk .nils (.sl .no sz []) := by
  intro G v h
  cases h
  exact .sl0 none 0 .no sz (Nat.zero_le _) (.inl rfl)
theorem wk_tup {aas bs : List AV} (h : WkL aas bs) : Wk (.tup aas) (.tup bs) := by
  intro G v hv
  cases hv with
  | tup vs _ hl hr =>
    have := h.rel (vs := vs.toList) (G := G) ⟨by simpa using hl, fun i v a e1 e2 => hr i v a (by simpa using e1) e2⟩
    exact .tup vs bs (by simpa using this.len) (fun i v a e1 e2 => this.at_ i v a (by simpa using e1) e2)
theorem wk_agg {aas bs : List AV} (h : WkL aas bs) : Wk (.agg aas) (.agg bs) := by
  intro G v hv
  cases hv with
  | agg vs _ hl hr =>
    have := h.rel (vs := vs.toList) (G := G) ⟨by simpa using hl, fun i v a e1 e2 => hr i v a (by simpa using e1) e2⟩
    exact .agg vs bs (by simpa using this.len) (fun i v a e1 e2 => this.at_ i v a (by simpa using e1) e2)

def ix {α : Type} (l : List α) (i : Int) : Option α := if 0 ≤ i then l[i.toNat]? else none
def cutTo {α : Type} (l : List α) (h : Int) : Option (List α) := if 0 ≤ h ∧ h ≤ l.length then some (l.take h.toNat) else none
def cutFrom {α : Type} (l : List α) (k : Int) : Option (List α) := if 0 ≤ k ∧ k ≤ l.length then some (l.drop k.toNat) else none
def cutO {α : Type} (l : List α) (k h : Int) : Option (List α) := if 0 ≤ k ∧ k ≤ h ∧ h ≤ l.length then some ((l.take h.toNat).drop k.toNat) else none
def app {α : Type} (b : Nat) (l m : List α) : Option (List α) := if (l.length + m.length) * b ≤ 140737488355328 then some (l ++ m) else none
def toBytes (s : List (BitVec 8)) : Option (List (BitVec 8)) := if s.length ≤ 140737488355328 then some s else none
def ixA {α : Type} (n : Nat) (l : List α) (i : Int) : Option α := if 0 ≤ i ∧ i < n then l[i.toNat]? else none
def setA {α : Type} (n : Nat) (l : List α) (i : Int) (x : α) : Option (List α) := if 0 ≤ i ∧ i < n ∧ i.toNat < l.length then some (l.set i.toNat x) else none
def whole {α : Type} (n : Nat) (l : List α) : Option (List α) := if l.length = n then some l else none

theorem ix_some {α : Type} {l : List α} {i : Int} {y : α} (h : ix l i = some y) : 0 ≤ i ∧ l[i.toNat]? = some y := by
  unfold ix at h
  split at h
  · exact ⟨by assumption, h⟩
  · cases h
theorem ixA_some {α : Type} {n : Nat} {l : List α} {i : Int} {y : α} (h : ixA n l i = some y) : 0 ≤ i ∧ i < n ∧ l[i.toNat]? = some y := by
  unfold ixA at h
  split at h
  · rename_i hc; exact ⟨hc.1, hc.2, h⟩
  · cases h

section
variable {P : Program} {Ty : TypeId → Option TI} {n : Nat} {σ : St} {ops : Array Oper} {fr : Nat → AV} {d : Option Tmp} {ty : TypeId} {pos : String} {af : Array Edge} {g : Option (Nat × Bool)} {ox oy oi : Operand} {T T' E U : TypeId} {α : Type} {e : α → AV} {sz : Nat} {k : Tok}

theorem o_len (hT : TyOk P Ty) {ts : List TypeId} {l : List α} (hd : tdOf Ty T = .slice E) (hx : aeval fr ox = .sl k sz (l.map e)) : OpP P ⟨d, .call ⟨.builtin .len, #[ox], (T :: ts).toArray⟩, ty, pos, af, g⟩ fr (eI l.length) :=
  OpP.of_aop' hT (mu := false) rfl (fun τ => by simp only [aop, hx, alen, hd, List.length_map]; rfl)
theorem o_len_s (hT : TyOk P Ty) {ts : List TypeId} {l : List (BitVec 8)} (hd : tdOf Ty T = .str) (hx : aeval fr ox = eS l) : OpP P ⟨d, .call ⟨.builtin .len, #[ox], (T :: ts).toArray⟩, ty, pos, af, g⟩ fr (eI l.length) :=
  OpP.of_aop' hT (mu := false) rfl (fun τ => by simp only [aop, hx, eS, alen, hd, mkB_size]; rfl)
theorem o_ixa (hT : TyOk P Ty) {l : List α} {kk : IntKind} {i : Int} {y : α} (h : ix l i = some y) (hd : tdOf Ty T = .slice E) (he : Enc Ty E sz e) (hx : aeval fr ox = .sl k sz (l.map e)) (hi : aeval fr oi = .int kk i) : OpP P ⟨d, .indexAddr T ox oi, ty, pos, af, g⟩ fr (.fptr (e y).cells 0) := by
  obtain ⟨h0, h1⟩ := ix_some h
  refine OpP.of_aop' hT (mu := false) rfl (fun τ => ?_)
  simp only [aop, hx, hi, aindexAddr, hd]
  rw [if_pos ⟨h0, he.ty.symm, he.pos⟩, List.getElem?_map, h1]
  rfl
theorem o_ld (hT : TyOk P Ty) {cs : List AV} {off : Nat} {a : AV} (hx : aeval fr ox = .fptr cs off) (h : acut Ty T cs off = some a) : OpP P ⟨d, .load T ox, ty, pos, af, g⟩ fr a :=
  OpP.of_aop' hT (mu := false) rfl (fun τ => by simp only [aop, hx, aload, acells, h]; rfl)
theorem acut_enc (he : Enc Ty T sz e) (hs : (Ty T).isSome = true) (y : α) : acut Ty T (e y).cells 0 = some (e y) := by
  obtain ⟨i, hi⟩ := Option.isSome_iff_exists.1 hs
  have hsz : i.sz = sz := by have := he.ty; unfold szOf at this; rw [hi] at this; exact this
  have htd : tdOf Ty T = i.d := by unfold tdOf; rw [hi]
  unfold acut
  rw [hi]
  simp only
  split
  · rename_i ha
    rw [if_pos (by rw [he.len, hsz]; omega), hsz, List.drop_zero, List.take_of_length_le (by rw [he.len]; exact Nat.le_refl _), ← he.agg (by rw [htd]; exact ha)]
  · rename_i ha
    rw [he.one (by rw [htd]; simpa using ha)]; rfl
theorem o_ld_e (hT : TyOk P Ty) (he : Enc Ty T sz e) (hs : (Ty T).isSome = true) {y : α} (hx : aeval fr ox = .fptr (e y).cells 0) : OpP P ⟨d, .load T ox, ty, pos, af, g⟩ fr (e y) := o_ld hT hx (acut_enc he hs y)
def SrcOk (Ty : TypeId → Option TI) (U : TypeId) (sz : Nat) (σ : St) (a : AV) (es : List AV) : Prop := srcOf Ty U sz σ a = some es
theorem src_l {k : Tok} {l : List α} {a : AV} (hd : tdOf Ty U = .slice E) (hx : a = .sl k sz (l.map e)) : SrcOk Ty U sz σ a (l.map e) := by
  subst hx
  simp only [SrcOk, srcOf, hd, if_true]
theorem app_some {b : Nat} {l m z : List α} (h : app b l m = some z) : (l.length + m.length) * b ≤ 140737488355328 ∧ z = l ++ m := by
  unfold app at h
  split at h <;> cases h
  exact ⟨by assumption, rfl⟩
theorem o_app (hT : TyOk P Ty) {i : TI} {tk : Nat} {l m z : List α} (h : app i.bytes l m = some z) (hd : tdOf Ty T = .slice E) (hi : Ty E = some i) (hsz : i.sz = sz) (hb : 0 < i.bytes) (hx : aeval fr ox = .sl (.own tk) sz (l.map e)) (ho : σ.opn[tk]? = some true) (hs : SrcOk Ty U sz σ (aeval fr oy) (m.map e)) :
    OpS P ⟨d, .call ⟨.builtin .append, #[ox, oy], #[T, U]⟩, ty, pos, af, g⟩ fr σ (fun a τ => a = eT σ.opn.length sz e z ∧ τ = σ.tok tk) := by
  obtain ⟨h1, rfl⟩ := app_some h
  subst hsz
  refine OpS.of_aop hT (mu := false) rfl (aeval fr) (fun x _ => Wk.refl _) (a := eT σ.opn.length i.sz e (l ++ m)) (b := eT σ.opn.length i.sz e (l ++ m)) (σ' := σ.tok tk) ?_ (Wk.refl _)
  simp only [aop, hx, aappend, hd, hi, baseOf, ho, and_self, if_true]
  unfold SrcOk at hs
  rw [hs]
  simp only [List.length_map]
  rw [if_pos ⟨hb, h1⟩, ← List.map_append]
  rfl
theorem strOf_bytes (l : List (BitVec 8)) : strOf (l.map (eU .u8)) = mkB l ∧ (l.map (@eU .u8 8)).all isByte = true := by
  constructor
  · unfold strOf mkB
    congr 2
    rw [List.map_map]
    apply List.map_congr_left
    intro x _
    simp only [Function.comp, eU, byteOf, Int.toNat_natCast]
    apply UInt8.toNat_inj.1
    simp
  · rw [List.all_eq_true]
    intro a ha
    obtain ⟨x, _, rfl⟩ := List.mem_map.1 ha
    have := x.isLt
    simp [isByte, eU]; try omega
theorem o_b2s (hT : TyOk P Ty) {l : List (BitVec 8)} (h1 : tdOf Ty T = .slice E) (h2 : tdOf Ty T' = .str) (h3 : tdOf Ty E = .int .u8) (hx : aeval fr ox = .sl k 1 (l.map (eU .u8))) : OpP P ⟨d, .convert T T' ox, ty, pos, af, g⟩ fr (eS l) := by
  refine OpP.of_aop' hT (mu := false) rfl (fun τ => ?_)
  simp only [aop, hx, aconv, aconvM, h1, h2, h3, strOf_bytes, and_self, if_true]
  rfl
theorem o_bconst (hT : TyOk P Ty) {l : List (BitVec 8)} {x : BitVec 8} (h1 : tdOf Ty T = .slice E) (h3 : tdOf Ty E = .int .u8) (hx : aeval fr ox = .sl .full 1 ((x :: l).map (eU .u8))) : OpP P ⟨d, .convert T T ox, ty, pos, af, g⟩ fr (eF 1 (eU .u8) (x :: l)) := by
  refine OpP.of_aop' hT (mu := false) rfl (fun τ => ?_)
  simp only [aop, hx, aconv, aconvM, h1, h3, List.map_cons, if_true]
  rfl
theorem cL_length (he : ∀ x, (e x).cells.length = sz) (l : List α) : (cL e l).length = l.length * sz := by
  unfold cL
  rw [flat_length (sz := sz) (fun x hx => by obtain ⟨y, _, rfl⟩ := List.mem_map.1 hx; exact he y), List.length_map]
theorem acut_at (he : Enc Ty E sz e) {T : TypeId} {l : List α} {i o : Nat} {y : α} {a : AV} (hl : l[i]? = some y) (h : acut Ty T (e y).cells o = some a) (ho : (Ty T).isSome = true → isAggTD (tdOf Ty T) = true → o + szOf Ty T ≤ sz) : acut Ty T (cL e l) (i * sz + o) = some a := by
  have hall : ∀ x ∈ l.map e, x.cells.length = sz := fun x hx => by obtain ⟨y, _, rfl⟩ := List.mem_map.1 hx; exact he.len y
  have hget : (l.map e)[i]? = some (e y) := by rw [List.getElem?_map, hl]; rfl
  unfold acut at h ⊢
  cases hi : Ty T with
  | none => rw [hi] at h; cases h
  | some ti =>
    rw [hi] at h
    simp only at h ⊢
    split
    · rename_i ha
      rw [if_pos ha] at h
      split at h
      case isFalse => cases h
      rename_i hle
      cases h
      have hlen : (cL e l).length = l.length * sz := cL_length he.len l
      have hil : i < l.length := (List.getElem?_eq_some_iff.1 hl).1
      rw [he.len] at hle
      have h2 : i * sz + sz ≤ l.length * sz := by rw [← Nat.succ_mul]; exact Nat.mul_le_mul_right _ hil
      rw [if_pos (by omega)]
      congr 2
      apply List.ext_getElem?
      intro j
      rw [List.getElem?_take, List.getElem?_take]
      split
      · rename_i hj
        rw [List.getElem?_drop, List.getElem?_drop]
        have hj2 : o + j < (e y).cells.length := by rw [he.len]; omega
        have := flat_get hall hget (List.getElem?_eq_getElem hj2)
        rw [show i * sz + o + j = i * sz + (o + j) by omega, List.getElem?_eq_getElem hj2]
        exact this
      · rfl
    · rename_i ha
      rw [if_neg ha] at h
      exact flat_get hall hget h
theorem o_alloc (hT : TyOk P Ty) {i : TI} (hi : Ty T = some i) : OpS P ⟨d, .alloc T, ty, pos, af, g⟩ fr σ (fun a τ => a = .ref σ.objs.length 0 ∧ τ = ⟨σ.objs ++ [i.zero.cells], σ.opn, σ.gl⟩) :=
  OpS.of_aop hT (mu := false) rfl (aeval fr) (fun x _ => Wk.refl _) (by simp only [aop, aalloc, hi]) (Wk.refl _)
open Classical in
theorem o_box (hT : TyOk P Ty) {a b : AV} (hx : aeval fr ox = a) (hw : Wk a b) (hf : b.cells.all flatAV = true) : OpS P ⟨d, .box T ox, ty, pos, af, g⟩ fr σ (fun a τ => a = .ref σ.objs.length 0 ∧ τ = ⟨σ.objs ++ [b.cells], σ.opn, σ.gl⟩) := by
  refine OpS.of_aop hT (mu := true) rfl (fun x => if x = ox then b else .junk) (fun x hx' => ?_) (a := .ref σ.objs.length 0) (b := .ref σ.objs.length 0) (σ' := ⟨σ.objs ++ [b.cells], σ.opn, σ.gl⟩) ?_ (Wk.refl _)
  · simp [Op.operands] at hx'
    subst hx'
    rw [if_pos rfl, hx]; exact hw
  · simp only [aop, if_true, abox, hf]
open Classical in
theorem o_boxf (hT : TyOk P Ty) {a b : AV} (hx : aeval fr ox = a) (hw : Wk a b) (hf : b.cells.all flatAV = true) : OpP P ⟨d, .box T ox, ty, pos, af, g⟩ fr (.fptr b.cells 0) := fun σ => by
  refine OpS.of_aop hT (mu := false) rfl (fun x => if x = ox then b else .junk) (fun x hx' => ?_) (a := .fptr b.cells 0) (b := .fptr b.cells 0) (σ' := σ) ?_ (Wk.refl _)
  · simp [Op.operands] at hx'
    subst hx'
    rw [if_pos rfl, hx]; exact hw
  · simp only [aop, if_true, abox, hf]; rfl
theorem o_ldv (hT : TyOk P Ty) {id off : Nat} {cs : List AV} {a : AV} (hc : σ.objs[id]? = some cs) (hsp : spcl cs = false) (h : acut Ty T cs off = some a) (hx : aeval fr ox = .ref id off) : OpS P ⟨d, .load T ox, ty, pos, af, g⟩ fr σ (fun a' τ => a' = a ∧ τ = σ) :=
  OpS.of_aop hT (mu := false) rfl (aeval fr) (fun x _ => Wk.refl _) (by simp only [aop, hx, aload, acells, row_eq hc hsp, h]; rfl) (Wk.refl _)
open Classical in
theorem o_stv (hT : TyOk P Ty) {i : TI} {id off : Nat} {cs : List AV} {y b : AV} (hc : σ.objs[id]? = some cs) (hsp : spcl cs = false) (hi : Ty T = some i) (hne : oy ≠ ox) (hx : aeval fr ox = .ref id off) (hy : aeval fr oy = y) (hw : Wk y b) (hf : b.cells.all flatAV = true) (hl : b.cells.length = i.sz) (hle : off + i.sz ≤ cs.length) (cs' : List AV) (hcs : repl cs off b.cells = cs') :
    OpS P ⟨d, .store T ox oy, ty, pos, af, g⟩ fr σ (fun a τ => a = .junk ∧ τ = ⟨σ.objs.set id cs', σ.opn, σ.gl⟩) := by
  subst hcs
  refine OpS.of_aop hT (mu := false) rfl (fun x => if x = ox then .ref id off else b) (fun x hx' => ?_) (a := .junk) (b := .junk) (σ' := ⟨σ.objs.set id (repl cs off b.cells), σ.opn, σ.gl⟩) ?_ (Wk.refl _)
  · simp [Op.operands] at hx'
    rcases hx' with rfl | rfl
    · rw [if_pos rfl, hx]; exact Wk.refl _
    · rw [if_neg hne, hy]; exact hw
  · simp only [aop, if_true, if_neg hne, astore, hi, row_eq hc hsp]
    rw [if_pos ⟨hf, hl, hle⟩]
theorem o_arrv (hT : TyOk P Ty) {m id off : Nat} {kk : IntKind} {i : Int} (h0 : 0 ≤ i) (h1 : i < m) (hd : tdOf Ty T = .arr m E) (hz : szOf Ty E = sz) (hs : sz ≠ 0) (hx : aeval fr ox = .ref id off) (hi : aeval fr oi = .int kk i) : OpP P ⟨d, .indexAddr T ox oi, ty, pos, af, g⟩ fr (.ref id (off + i.toNat * sz)) := by
  refine OpP.of_aop' hT (mu := false) rfl (fun τ => ?_)
  simp only [aop, hx, hi, aindexAddr, hd]
  rw [if_pos ⟨h0, h1, by rw [hz]; exact hs⟩, hz]
  rfl
theorem repl_get {cs new : List AV} {o : Nat} (h : o + new.length ≤ cs.length) (j : Nat) : (repl cs o new)[j]? = if j < o then cs[j]? else if j < o + new.length then new[j - o]? else cs[j]? := by
  unfold repl
  rw [List.getElem?_append, List.getElem?_append]
  simp only [List.length_append, List.length_take, List.getElem?_take, List.getElem?_drop]
  have : min o cs.length = o := by omega
  rw [this]
  by_cases c1 : j < o
  · rw [if_pos (by omega), if_pos c1, if_pos c1, if_pos c1]
  · by_cases c2 : j < o + new.length
    · rw [if_pos c2, if_neg c1, if_neg c1, if_pos c2]
    · rw [if_neg c2, if_neg c1, if_neg c2]
      congr 1; omega
theorem repl_at (he : ∀ x, (e x).cells.length = sz) {l : List α} {i o : Nat} {y z : α} {new : List AV} (hl : l[i]? = some y) (h : repl (e y).cells o new = (e z).cells) (hle : o + new.length ≤ sz) : repl (cL e l) (i * sz + o) new = cL e (l.set i z) := by
  have hall : ∀ x ∈ l.map e, x.cells.length = sz := fun x hx => by obtain ⟨y, _, rfl⟩ := List.mem_map.1 hx; exact he y
  have hil : i < l.length := (List.getElem?_eq_some_iff.1 hl).1
  have hlen : (flat (l.map e)).length = l.length * sz := by rw [flat_length hall, List.length_map]
  have h2 : i * sz + sz ≤ l.length * sz := by rw [← Nat.succ_mul]; exact Nat.mul_le_mul_right _ hil
  unfold cL
  rw [List.map_set, flat_set hall (by rw [List.length_map]; exact hil) (he z), ← h]
  have hrl : (repl (e y).cells o new).length = sz := by rw [h, he]
  have hat : ∀ j, j < sz → (flat (l.map e))[i * sz + j]? = (e y).cells[j]? := fun j hj => by
    have hj2 : j < (e y).cells.length := by rw [he]; exact hj
    rw [List.getElem?_eq_getElem hj2]
    exact flat_get hall (by rw [List.getElem?_map, hl]; rfl) (List.getElem?_eq_getElem hj2)
  apply List.ext_getElem?
  intro j
  rw [repl_get (by omega), repl_get (by omega), hrl]
  by_cases c1 : j < i * sz
  · rw [if_pos (by omega), if_pos c1]
  · rw [if_neg c1]
    by_cases c2 : j < i * sz + sz
    · rw [if_pos c2, repl_get (by rw [he]; exact hle)]
      have hj : j = i * sz + (j - i * sz) := by omega
      by_cases c3 : j < i * sz + o
      · rw [if_pos c3, if_pos (by omega), ← hat _ (by omega), ← hj]
      · by_cases c4 : j < i * sz + o + new.length
        · rw [if_neg c3, if_pos c4, if_neg (by omega), if_pos (by omega)]; congr 1; omega
        · rw [if_neg c3, if_neg c4, if_neg (by omega), if_neg (by omega), ← hat _ (by omega), ← hj]
    · rw [if_neg (by omega), if_neg (by omega), if_neg c2]
def eqA {α : Type} [DecidableEq α] (m : Nat) (x y : List α) : Option Bool := if x.length = m ∧ y.length = m then some (x == y) else none
theorem all_flat_cL (he : Enc Ty E sz e) (l : List α) : (eA e l).cells.all flatAV = true := by
  show (cL e l).all flatAV = true
  unfold cL flat
  rw [List.all_eq_true]
  intro a ha
  obtain ⟨x, hx, ha⟩ := List.mem_flatMap.1 ha
  obtain ⟨y, _, rfl⟩ := List.mem_map.1 hx
  exact List.all_eq_true.1 (he.flat y) a ha
theorem spcl_len : ∀ {l : List AV}, l.length ≠ 1 → spcl l = false
  | [], _ => rfl
  | [a], h => absurd rfl h
  | _ :: _ :: _, _ => rfl
theorem spcl_cL (he : Enc Ty E sz e) (l : List α) : spcl (cL e l) = false := flat_nsp (all_flat_cL he l)
theorem spcl_mid (he : Enc Ty E sz e) {A B : List AV} {l : List α} (hl : 0 < l.length) : spcl (A ++ (cL e l ++ B)) = false := by
  by_cases h : A = [] ∧ B = []
  · obtain ⟨rfl, rfl⟩ := h
    rw [List.nil_append, List.append_nil]; exact spcl_cL he l
  · refine spcl_len fun h1 => h ?_
    have h2 : 0 < (cL e l).length := by rw [cL_length he.len]; exact Nat.mul_pos hl (Nat.pos_of_ne_zero he.pos)
    simp only [List.length_append] at h1
    exact ⟨List.eq_nil_of_length_eq_zero (by omega), List.eq_nil_of_length_eq_zero (by omega)⟩
def stW {α : Type} (m : Nat) (l y : List α) : Option (List α) := (whole m l).bind fun _ => whole m y
def chk (m : Nat) (i : Int) : Option Unit := if 0 ≤ i ∧ i < m then some () else none
theorem chk_some {m : Nat} {i : Int} {u : Unit} (h : chk m i = some u) : 0 ≤ i ∧ i < m := by
  unfold chk at h
  split at h
  · assumption
  · cases h
def updA {α : Type} (m : Nat) (l : List α) (i : Int) (f : α → α) : Option (List α) := (ixA m l i).map fun x => l.set i.toNat (f x)
end

def cnt (S : List Nat) (i : Nat) : Nat := (S.filter fun s => Nat.blt s i).length
def srt (S : List Nat) (n : Nat) : Bool := ((List.range S.length).all fun j => cnt S (S.getD j 0) == j) && ((List.range n).all fun i => cnt S (i + 1) == (if S.contains i then cnt S i + 1 else cnt S i))
section
variable (P : Program)
def wpdS (ops : Array Oper) (S : List Nat) (K : (Nat → AV) → St → Prop) : Nat → List Oper → (Nat → AV) → St → Prop
  | _, [], fr, σ => K fr σ
  | i, o :: rest, fr, σ => if S.contains i = true then ∃ a σ', AStep P ops o fr σ a σ' ∧ wpdS ops S K (i + 1) rest (putO fr o.dst a) σ'
    else ∃ a, ((∀ τ, AStep P ops o fr τ a τ) ∨ ((win ops S i).all (· == cnt S i) = true ∧ AStep P ops o fr σ a σ)) ∧ wpdS ops S K (i + 1) rest (putO fr o.dst a) σ
end
section
variable {P : Program} {w0 : World} {n : Nat} {σ : St} {ops : Array Oper} {S : List Nat}
theorem wpdS_steps {K : (Nat → AV) → St → Prop} (fr0 : Nat → AV) (hs : srt S ops.size = true) : ∀ (m i : Nat) (aas : Nat → AV) (σs : Nat → St), i + m = ops.size → wpdS P ops S K i (ops.toList.drop i) (frT ops fr0 aas i) (σs (cnt S i)) →
    ∃ (aas' : Nat → AV) (σs' : Nat → St), (∀ k, k < i → aas' k = aas k) ∧ (∀ j, j ≤ cnt S i → σs' j = σs j) ∧ K (frT ops fr0 aas' ops.size) (σs' (cnt S ops.size)) ∧
      ∀ (k : Nat) (o : Oper), i ≤ k → ops[k]? = some o → (S.contains k = true → AStep P ops o (frT ops fr0 aas' k) (σs' (cnt S k)) (aas' k) (σs' (cnt S k + 1))) ∧
        (S.contains k = false → ∀ j ∈ win ops S k, AStep P ops o (frT ops fr0 aas' k) (σs' j) (aas' k) (σs' j))
  | 0, i, aas, σs, hi, h => by
    rw [List.drop_of_length_le (by simp; omega)] at h
    have : i = ops.size := by omega
    subst this
    exact ⟨aas, σs, fun _ _ => rfl, fun _ _ => rfl, h, fun k o hk ho => by have := (Array.getElem?_eq_some_iff.1 ho).1; omega⟩
  | m + 1, i, aas, σs, hi, h => by
    have hlt : i < ops.size := by omega
    have hc : cnt S (i + 1) = if S.contains i then cnt S i + 1 else cnt S i := by
      have h2 := hs
      simp only [srt, Bool.and_eq_true, List.all_eq_true] at h2
      simpa using h2.2 i (by simpa using hlt)
    rw [List.drop_eq_getElem_cons (by simpa using hlt)] at h
    simp only [Array.getElem_toList] at h
    have hd : dstAt ops i = ops[i].dst := by simp [dstAt, Array.getElem?_eq_getElem hlt]
    have e1 (x : AV) : frT ops fr0 (fun k => if k = i then x else aas k) i = frT ops fr0 aas i := frT_congr fr0 i (fun k hk => by rw [if_neg (by omega)])
    have e2 (x : AV) : frT ops fr0 (fun k => if k = i then x else aas k) (i + 1) = putO (frT ops fr0 aas i) ops[i].dst x := by
      simp only [frT]
      rw [e1, hd]
      simp
    simp only [wpdS] at h
    split at h
    · rename_i hin
      obtain ⟨x, σ', h1, h2⟩ := h
      rw [if_pos hin] at hc
      rw [← e2] at h2
      obtain ⟨f, hf1, hf2⟩ : ∃ f : Nat → St, (∀ j, j ≤ cnt S i → f j = σs j) ∧ f (cnt S i + 1) = σ' := ⟨fun j => if j = cnt S i + 1 then σ' else σs j, fun j hj => if_neg (by omega), if_pos rfl⟩
      obtain ⟨aas', σs', k1, k2, k3, k4⟩ := wpdS_steps (K := K) fr0 hs m (i + 1) (fun k => if k = i then x else aas k) f (by omega) (by rw [hc, hf2]; exact h2)
      have hk : ∀ k, k < i → aas' k = aas k := fun k hk => by rw [k1 k (by omega), if_neg (by omega)]
      have hj : ∀ j, j ≤ cnt S i → σs' j = σs j := fun j hj => by rw [k2 j (by omega), hf1 j hj]
      refine ⟨aas', σs', hk, hj, k3, fun k o hik ho => ?_⟩
      by_cases hki : k = i
      · subst hki
        rw [Array.getElem?_eq_getElem hlt] at ho
        cases ho
        have ha : aas' k = x := by rw [k1 k (by omega)]; simp
        refine ⟨fun _ => ?_, fun hno => by rw [hin] at hno; cases hno⟩
        rw [ha, frT_congr fr0 k hk, hj _ (Nat.le_refl _), k2 (cnt S k + 1) (by omega), hf2]
        exact h1
      · exact k4 k o (by omega) ho
    · rename_i hin
      obtain ⟨x, h1, h2⟩ := h
      rw [if_neg hin] at hc
      rw [← e2] at h2
      obtain ⟨aas', σs', k1, k2, k3, k4⟩ := wpdS_steps fr0 hs m (i + 1) _ σs (by omega) (by rw [hc]; exact h2)
      have hk : ∀ k, k < i → aas' k = aas k := fun k hk => by rw [k1 k (by omega), if_neg (by omega)]
      have hj : ∀ j, j ≤ cnt S i → σs' j = σs j := fun j hj => k2 j (by omega)
      refine ⟨aas', σs', hk, hj, k3, fun k o hik ho => ?_⟩
      by_cases hki : k = i
      · subst hki
        rw [Array.getElem?_eq_getElem hlt] at ho
        cases ho
        have ha : aas' k = x := by rw [k1 k (by omega)]; simp
        refine ⟨fun hyes => absurd hyes hin, fun _ j hjw => ?_⟩
        rw [ha, frT_congr fr0 k hk]
        rcases h1 with h1 | ⟨hw, h1⟩
        · exact h1 _
        · rw [List.all_eq_true] at hw
          have : j = cnt S k := by simpa using hw j hjw
          rw [this, hj _ (Nat.le_refl _)]
          exact h1
      · exact k4 k o (by omega) ho
theorem awp_drawS (hm : P.follows .mixedOrders = true) {id : Nat} {Q : AExit → (Nat → AV) → St → Prop} {fr : Nat → AV} (S : List Nat) (hd : allDst n ops = true) (hchk : drawChk ops S = true) (hs : srt S ops.size = true) (hl : cnt S ops.size = S.length) (h : wpdS P ops S (Q .normal) 0 ops.toList fr σ) : AWP P n (.region id ops true) Q fr σ := by
  have hc0 : cnt S 0 = 0 := by simp [cnt, Nat.blt]
  obtain ⟨aas, σs, _, h2, h3, h4⟩ := wpdS_steps (P := P) (ops := ops) (S := S) (K := Q .normal) fr hs ops.size 0 (fun _ => .junk) (fun _ => σ) (by omega) (by simpa [frT] using h)
  refine awp_draw (P := P) hm hd hchk aas σs (fun i j o ho hj => ?_) (fun i o ho hi j hj => ?_) (by rw [← hl]; exact h3) (h2 0 (by omega))
  · have hi : S.contains i = true := by simpa using List.mem_of_getElem? hj
    have hcj : cnt S i = j := by
      have h2 := hs
      simp only [srt, Bool.and_eq_true, List.all_eq_true] at h2
      have hjl := (List.getElem?_eq_some_iff.1 hj).1
      have := h2.1 j (by simpa using hjl)
      rw [List.getD_eq_getElem?_getD, hj] at this
      simpa using this
    have := (h4 i o (Nat.zero_le _) ho).1 hi
    rw [hcj] at this
    exact this
  · exact (h4 i o (Nat.zero_le _) ho).2 (by simpa using hi) j hj
theorem wpdS_nil {K : (Nat → AV) → St → Prop} {i : Nat} {fr : Nat → AV} (h : K fr σ) : wpdS P ops S K i [] fr σ := h
theorem wpdS_p {K : (Nat → AV) → St → Prop} {i : Nat} {o : Oper} {rest : List Oper} {l : List (Nat × AV)} {a : AV} {t : Tmp} (hS : S.contains i = false) (hd : o.dst = some t) (hg : guardOf ops o (fm l) = some true) (ho : OpP P o (fm l) a) (h : wpdS P ops S K (i + 1) rest (fm ((t, a) :: l)) σ) : wpdS P ops S K i (o :: rest) (fm l) σ := by
  simp only [wpdS]
  rw [if_neg (by rw [hS]; simp)]
  refine ⟨a, .inl fun τ => ?_, by rw [hd]; exact h⟩
  simp only [AStep, hg]
  exact ho τ
theorem wpdS_lt {α β : Type} {z : α} {k : α → Option β} {r : β} (H : lt z k = some r) (enc : α → AV) {K : (Nat → AV) → St → Prop} {i : Nat} {o : Oper} {rest : List Oper} {l : List (Nat × AV)} {t : Nat} (hS : S.contains i = false) (hd : o.dst = some t) (hg : guardOf ops o (fm l) = some true)
    (ho : OpP P o (fm l) (enc z)) (h : ∀ x, k x = some r → wpdS P ops S K (i + 1) rest (fm ((t, enc x) :: l)) σ) : wpdS P ops S K i (o :: rest) (fm l) σ := wpdS_p hS hd hg ho (h z H)
theorem wpdS_bd {α β : Type} {z : Option α} {k : α → Option β} {r : β} (H : z.bind k = some r) (enc : α → AV) {K : (Nat → AV) → St → Prop} {i : Nat} {o : Oper} {rest : List Oper} {l : List (Nat × AV)} {t : Nat} (hS : S.contains i = false) (hd : o.dst = some t) (hg : guardOf ops o (fm l) = some true)
    (ho : ∀ x, z = some x → OpP P o (fm l) (enc x)) (h : ∀ x, z = some x → k x = some r → wpdS P ops S K (i + 1) rest (fm ((t, enc x) :: l)) σ) : wpdS P ops S K i (o :: rest) (fm l) σ := by
  obtain ⟨x, hx, H⟩ := Option.bind_eq_some_iff.1 H
  exact wpdS_p hS hd hg (ho x hx) (h x hx H)
theorem wpdS_mv {a : AV} {K : (Nat → AV) → St → Prop} {i : Nat} {o : Oper} {rest : List Oper} {l : List (Nat × AV)} {t : Nat} (hS : S.contains i = false) (hd : o.dst = some t) (hg : guardOf ops o (fm l) = some true)
    (ho : OpP P o (fm l) a) (h : wpdS P ops S K (i + 1) rest (fm ((t, a) :: l)) σ) : wpdS P ops S K i (o :: rest) (fm l) σ := wpdS_p hS hd hg ho h
theorem wpdS_skip {K : (Nat → AV) → St → Prop} {i : Nat} {o : Oper} {rest : List Oper} {l : List (Nat × AV)} {t : Tmp} (hS : S.contains i = false) (hd : o.dst = some t) (hg : guardOf ops o (fm l) = some false) (h : wpdS P ops S K (i + 1) rest (fm ((t, .tup []) :: l)) σ) : wpdS P ops S K i (o :: rest) (fm l) σ := by
  simp only [wpdS]
  rw [if_neg (by rw [hS]; simp)]
  refine ⟨.tup [], .inl fun τ => ?_, by rw [hd]; exact h⟩
  simp only [AStep, hg]
  exact ⟨trivial, trivial⟩
theorem wpdS_rd {a : AV} {K : (Nat → AV) → St → Prop} {i : Nat} {o : Oper} {rest : List Oper} {l : List (Nat × AV)} {t : Tmp} (hS : S.contains i = false) (hw : (win ops S i).all (· == cnt S i) = true) (hd : o.dst = some t) (hg : guardOf ops o (fm l) = some true) (ho : OpS P o (fm l) σ (fun a' τ => a' = a ∧ τ = σ)) (h : wpdS P ops S K (i + 1) rest (fm ((t, a) :: l)) σ) : wpdS P ops S K i (o :: rest) (fm l) σ := by
  simp only [wpdS]
  rw [if_neg (by rw [hS]; simp)]
  refine ⟨a, .inr ⟨hw, ?_⟩, by rw [hd]; exact h⟩
  simp only [AStep, hg]
  exact ho
theorem wpdS_bdr {α β : Type} {z : Option α} {k : α → Option β} {r : β} (H : z.bind k = some r) (enc : α → AV) {K : (Nat → AV) → St → Prop} {i : Nat} {o : Oper} {rest : List Oper} {l : List (Nat × AV)} {t : Nat} (hS : S.contains i = false) (hw : (win ops S i).all (· == cnt S i) = true) (hd : o.dst = some t) (hg : guardOf ops o (fm l) = some true)
    (ho : ∀ x, z = some x → OpS P o (fm l) σ (fun a τ => a = enc x ∧ τ = σ)) (h : ∀ x, z = some x → k x = some r → wpdS P ops S K (i + 1) rest (fm ((t, enc x) :: l)) σ) : wpdS P ops S K i (o :: rest) (fm l) σ := by
  obtain ⟨x, hx, H⟩ := Option.bind_eq_some_iff.1 H
  exact wpdS_rd hS hw hd hg (ho x hx) (h x hx H)
theorem wpdS_s1 {a : AV} {τ : St} {K : (Nat → AV) → St → Prop} {i : Nat} {o : Oper} {rest : List Oper} {l : List (Nat × AV)} {t : Tmp} (hS : S.contains i = true) (hd : o.dst = some t) (hg : guardOf ops o (fm l) = some true) (ho : OpS P o (fm l) σ (fun a' τ' => a' = a ∧ τ' = τ)) (h : wpdS P ops S K (i + 1) rest (fm ((t, a) :: l)) τ) : wpdS P ops S K i (o :: rest) (fm l) σ := by
  simp only [wpdS]
  rw [if_pos hS]
  refine ⟨a, τ, ?_, by rw [hd]; exact h⟩
  simp only [AStep, hg]
  exact ho
theorem wpdS_s0 {a : AV} {τ : St} {K : (Nat → AV) → St → Prop} {i : Nat} {o : Oper} {rest : List Oper} {l : List (Nat × AV)} (hS : S.contains i = true) (hd : o.dst = none) (hg : guardOf ops o (fm l) = some true) (ho : OpS P o (fm l) σ (fun a' τ' => a' = a ∧ τ' = τ)) (h : wpdS P ops S K (i + 1) rest (fm l) τ) : wpdS P ops S K i (o :: rest) (fm l) σ := by
  simp only [wpdS]
  rw [if_pos hS]
  refine ⟨a, τ, ?_, by rw [hd]; exact h⟩
  simp only [AStep, hg]
  exact ho
theorem lt_ex {α β : Type} {z : α} {k : α → Option β} {r : β} (H : lt z k = some r) : ∃ x, z = x ∧ k x = some r := ⟨z, rfl, H⟩
theorem awp_cutn {n : Nat} {c : Code} {Q : AExit → (Nat → AV) → St → Prop} {fr : Nat → AV} (M : (Nat → AV) → St → Prop) (hM : ∀ fr τ, M fr τ → Q .normal fr τ) (h : AWP P n c (thenQ M Q) fr σ) : AWP P n c Q fr σ :=
  h.mono fun e fr σ he => by
    cases e with
    | normal => exact hM _ _ he
    | _ => exact he
def exitQ (id : Nat) (M : (Nat → AV) → St → Prop) (Q : AExit → (Nat → AV) → St → Prop) : AExit → (Nat → AV) → St → Prop
  | .exit i, fr, σ => bif Nat.beq i id then M fr σ else Q (.exit i) fr σ
  | e, fr, σ => Q e fr σ
theorem awp_cutx {n : Nat} {c : Code} {Q : AExit → (Nat → AV) → St → Prop} {fr : Nat → AV} (id : Nat) (M : (Nat → AV) → St → Prop) (hM : ∀ fr τ, M fr τ → Q (.exit id) fr τ) (h : AWP P n c (exitQ id M Q) fr σ) : AWP P n c Q fr σ :=
  h.mono fun e fr σ he => by
    cases e with
    | exit i =>
      simp only [exitQ] at he
      cases hb : Nat.beq i id with
      | true => rw [hb] at he; have := Nat.eq_of_beq_eq_true hb; subst this; exact hM _ _ he
      | false => rw [hb] at he; exact he
    | _ => exact he
theorem AWP.tokN {n : Nat} {c : Code} {Q : AExit → (Nat → AV) → St → Prop} {l : List (Nat × AV)} {σ0 : St} {O : List (Nat × List AV)} {A : List Nat} (hH : Holds σ0 O A σ) (t sz : Nat) (ht : Va.fm l t = .nils) (h : ∀ k τ, Holds σ0 O (k :: A) τ → AWP P n c Q (Va.fm ((t, .sl (.own k) sz []) :: l)) τ) : AWP P n c Q (Va.fm l) σ :=
  AWP.tokNil t sz (.inl ht) (h _ _ hH.more)
theorem wpo_rd {a : AV} {K : (Nat → AV) → St → Prop} {n : Nat} {o : Oper} {rest : List Oper} {l : List (Nat × AV)} {t : Nat} (hd : o.dst = some t) (hn : Nat.ble (t + 1) n = true) (hg : guardOf ops o (fm l) = some true)
    (ho : OpS P o (fm l) σ (fun a' τ => a' = a ∧ τ = σ)) (h : wpo P n ops K rest (fm ((t, a) :: l)) σ) : wpo P n ops K (o :: rest) (fm l) σ := wpo_s1 hd hn hg ho h
theorem wpo_a {av : Nat → AV} {R : Nat → St → Prop} {K : (Nat → AV) → St → Prop} {n : Nat} {o : Oper} {rest : List Oper} {l : List (Nat × AV)} {t : Nat} (hd : o.dst = some t) (hn : Nat.ble (t + 1) n = true) (hg : guardOf ops o (fm l) = some true)
    (ho : ∃ b τ, OpS P o (fm l) σ (fun a' τ' => a' = av b ∧ τ' = τ) ∧ R b τ) (h : ∀ b τ, R b τ → wpo P n ops K rest (fm ((t, av b) :: l)) τ) : wpo P n ops K (o :: rest) (fm l) σ := by
  obtain ⟨b, τ, h1, h2⟩ := ho
  exact wpo_s1 hd hn hg h1 (h b τ h2)
theorem wpo_z {R : St → Prop} {K : (Nat → AV) → St → Prop} {n : Nat} {o : Oper} {rest : List Oper} {l : List (Nat × AV)} (hd : o.dst = none) (hg : guardOf ops o (fm l) = some true)
    (ho : ∃ τ, OpS P o (fm l) σ (fun a' τ' => a' = .junk ∧ τ' = τ) ∧ R τ) (h : ∀ τ, R τ → wpo P n ops K rest (fm l) τ) : wpo P n ops K (o :: rest) (fm l) σ := by
  obtain ⟨τ, h1, h2⟩ := ho
  exact wpo_s0 hd hg h1 (h τ h2)
theorem wpdS_a {av : Nat → AV} {R : Nat → St → Prop} {K : (Nat → AV) → St → Prop} {i : Nat} {o : Oper} {rest : List Oper} {l : List (Nat × AV)} {t : Nat} (hS : S.contains i = true) (hd : o.dst = some t) (hg : guardOf ops o (fm l) = some true)
    (ho : ∃ b τ, OpS P o (fm l) σ (fun a' τ' => a' = av b ∧ τ' = τ) ∧ R b τ) (h : ∀ b τ, R b τ → wpdS P ops S K (i + 1) rest (fm ((t, av b) :: l)) τ) : wpdS P ops S K i (o :: rest) (fm l) σ := by
  obtain ⟨b, τ, h1, h2⟩ := ho
  exact wpdS_s1 hS hd hg h1 (h b τ h2)
theorem wpdS_z {R : St → Prop} {K : (Nat → AV) → St → Prop} {i : Nat} {o : Oper} {rest : List Oper} {l : List (Nat × AV)} (hS : S.contains i = true) (hd : o.dst = none) (hg : guardOf ops o (fm l) = some true)
    (ho : ∃ τ, OpS P o (fm l) σ (fun a' τ' => a' = .junk ∧ τ' = τ) ∧ R τ) (h : ∀ τ, R τ → wpdS P ops S K (i + 1) rest (fm l) τ) : wpdS P ops S K i (o :: rest) (fm l) σ := by
  obtain ⟨τ, h1, h2⟩ := ho
  exact wpdS_s0 hS hd hg h1 (h τ h2)
theorem OpS.wk {o : Oper} {fr fr' : Nat → AV} {K : AV → St → Prop} (k : WkF fr fr') (h : OpS P o fr' σ K) : OpS P o fr σ K :=
  fun w0 G act w Q K' hI hr hK => h w0 G act w Q K' hI (fun x hx => by
    have := hr x hx
    cases x with
    | tmp t => exact k t G _ this
    | _ => exact this) hK
theorem OpP.wk {o : Oper} {fr fr' : Nat → AV} {b : AV} (k : WkF fr fr') (h : OpP P o fr' b) : OpP P o fr b := fun τ => (h τ).wk k
theorem wkf_up {l : List (Nat × AV)} {t : Nat} {a : AV} (h : Wk (fm l t) a) : WkF (fm l) (fm ((t, a) :: l)) := by
  intro x
  simp only [fm, upd]
  split
  · rename_i e; subst e; exact h
  · exact Wk.refl _
theorem OpP.at_ {o : Oper} {fr : Nat → AV} {a : AV} (h : OpP P o fr a) : OpS P o fr σ (fun a' τ => a' = a ∧ τ = σ) := h σ
theorem wpo_cb {α β : Type} {z : Option α} {k : α → Option β} {r : β} (H : z.bind k = some r) (av : α → Nat → AV) {R : α → Nat → St → Prop} {K : (Nat → AV) → St → Prop} {n : Nat} {o : Oper} {rest : List Oper} {l : List (Nat × AV)} {t : Nat} (hd : o.dst = some t) (hn : Nat.ble (t + 1) n = true) (hg : guardOf ops o (fm l) = some true)
    (ho : ∀ x, z = some x → ∃ b τ, OpS P o (fm l) σ (fun a' τ' => a' = av x b ∧ τ' = τ) ∧ R x b τ) (h : ∀ x b τ, z = some x → k x = some r → R x b τ → wpo P n ops K rest (fm ((t, av x b) :: l)) τ) : wpo P n ops K (o :: rest) (fm l) σ := by
  obtain ⟨x, hx, H⟩ := Option.bind_eq_some_iff.1 H
  obtain ⟨b, τ, h1, h2⟩ := ho x hx
  exact wpo_s1 hd hn hg h1 (h x b τ hx H h2)
section
variable {Ty : TypeId → Option TI} {σ0 : St} {O : List (Nat × List AV)} {A : List Nat} {fr : Nat → AV} {d : Option Tmp} {ty : TypeId} {pos : String} {af : Array Edge} {g : Option (Nat × Bool)} {ox oy oi : Operand} {T T' E U : TypeId} {α : Type} {e : α → AV} {sz : Nat}
theorem h_alloc (hT : TyOk P Ty) (hH : Holds σ0 O A σ) {i : TI} (hi : Ty T = some i) (c : List AV) (hc : i.zero.cells = c) : ∃ id τ, OpS P ⟨d, .alloc T, ty, pos, af, g⟩ fr σ (fun a' τ' => a' = (fun id => AV.ref id 0) id ∧ τ' = τ) ∧ (Holds σ0 ((id, c) :: O) A τ ∧ σ0.objs.length ≤ id) :=
  ⟨_, _, o_alloc hT hi, by rw [hc]; exact hH.add c, hH.olen⟩
theorem h_box (hT : TyOk P Ty) (hH : Holds σ0 O A σ) {a b : AV} (hx : aeval fr ox = a) (hw : Wk a b) (hf : b.cells.all flatAV = true) (c : List AV) (hc : b.cells = c) : ∃ id τ, OpS P ⟨d, .box T ox, ty, pos, af, g⟩ fr σ (fun a' τ' => a' = (fun id => AV.ref id 0) id ∧ τ' = τ) ∧ (Holds σ0 ((id, c) :: O) A τ ∧ σ0.objs.length ≤ id) :=
  ⟨_, _, o_box hT hx hw hf, by rw [hc]; exact hH.add c, hH.olen⟩
theorem h_st (hT : TyOk P Ty) (hH : Holds σ0 O A σ) (k : Nat) {i : TI} {id off : Nat} {cs : List AV} {y b : AV} (hk : O[k]? = some (id, cs)) (hi : Ty T = some i) (hne : oy ≠ ox) (hx : aeval fr ox = .ref id off) (hy : aeval fr oy = y) (hw : Wk y b) (hf : b.cells.all flatAV = true) (hl : b.cells.length = i.sz) (hle : off + i.sz ≤ cs.length) (cs' : List AV) (hcs : repl cs off b.cells = cs') (hsp : spcl cs = false := by first | rfl | exact spcl_cL (by assumption) _) :
    ∃ τ, OpS P ⟨d, .store T ox oy, ty, pos, af, g⟩ fr σ (fun a' τ' => a' = .junk ∧ τ' = τ) ∧ Holds σ0 (O.set k (id, cs')) A τ :=
  ⟨_, o_stv hT (hH.at_ k hk) hsp hi hne hx hy hw hf hl hle cs' hcs, hH.put k hk cs'⟩
theorem h_app (hT : TyOk P Ty) (hH : Holds σ0 O A σ) (k : Nat) {i : TI} {tk : Nat} {l m z : List α} (h : app i.bytes l m = some z) (hk : A[k]? = some tk) (hd : tdOf Ty T = .slice E) (hi : Ty E = some i) (hsz : i.sz = sz) (hb : 0 < i.bytes) (hx : aeval fr ox = .sl (.own tk) sz (l.map e)) (hs : SrcOk Ty U sz σ (aeval fr oy) (m.map e)) :
    ∃ t τ, OpS P ⟨d, .call ⟨.builtin .append, #[ox, oy], #[T, U]⟩, ty, pos, af, g⟩ fr σ (fun a' τ' => a' = (fun t => eT t sz e z) t ∧ τ' = τ) ∧ Holds σ0 O (A.set k t) τ :=
  ⟨_, _, o_app hT h hd hi hsz hb hx (hH.open_ k hk) hs, hH.turn k hk⟩
theorem h_ld (hT : TyOk P Ty) (hH : Holds σ0 O A σ) (k : Nat) {id off : Nat} {cs : List AV} {a : AV} (hk : O[k]? = some (id, cs)) (h : acut Ty T cs off = some a) (hx : aeval fr ox = .ref id off) (hsp : spcl cs = false := by first | rfl | exact spcl_cL (by assumption) _) : OpS P ⟨d, .load T ox, ty, pos, af, g⟩ fr σ (fun a' τ => a' = a ∧ τ = σ) := o_ldv hT (hH.at_ k hk) hsp h hx
def putL (O : List (Nat × List AV)) : List (Nat × (Nat × List AV)) → List (Nat × List AV)
  | [] => O
  | p :: M => putL (O.set p.1 p.2) M
def hasL : List (Nat × List AV) → List (Nat × (Nat × List AV)) → Prop
  | _, [] => True
  | O, p :: M => (∃ c, O[p.1]? = some (p.2.1, c)) ∧ hasL (O.set p.1 p.2) M
theorem Holds.puts : ∀ {M : List (Nat × (Nat × List AV))} {O : List (Nat × List AV)} {σ : St}, Holds σ0 O A σ → hasL O M → Holds σ0 (putL O M) A (σ.puts (M.map (·.2)))
  | [], _, _, h, _ => h
  | p :: M, O, σ, h, hh => by
    obtain ⟨⟨c, hk⟩, h2⟩ := hh
    exact (h.put p.1 hk p.2.2).puts h2
theorem h_call1 (hH : Holds σ0 O A σ) {o : Oper} {f : Operand} {xs : List Operand} {gg : FuncId} {first cap args : List AV} {b : AV} (M : List (Nat × (Nat × List AV))) (hM : hasL O M) (hc : callOf o = some (f, xs)) (hf : aeval fr f = .fn (.func gg) first cap) (hargs : WkL (first ++ xs.map (aeval fr) ++ cap) args)
    (hcall : ACall P gg args σ (fun a τ => a = b ∧ τ = σ.puts (M.map (·.2)))) : ∃ (_ : Nat) (τ : St), OpS P o fr σ (fun a' τ' => a' = b ∧ τ' = τ) ∧ Holds σ0 (putL O M) A τ :=
  ⟨0, _, OpS.of_call hc hf hargs hcall, hH.puts hM⟩
theorem h_callr {o : Oper} {f : Operand} {xs : List Operand} {gg : FuncId} {first cap args : List AV} {b : AV} (hc : callOf o = some (f, xs)) (hf : aeval fr f = .fn (.func gg) first cap) (hargs : WkL (first ++ xs.map (aeval fr) ++ cap) args)
    (hcall : ACall P gg args σ (fun a τ => a = b ∧ τ = σ)) : OpS P o fr σ (fun a' τ => a' = b ∧ τ = σ) := OpS.of_call hc hf hargs hcall
end
end
theorem Holds.one {σ : St} {id : Nat} {c : List AV} (h : σ.objs[id]? = some c) : Holds σ [(id, c)] [] σ := (Holds.init σ).bring h (fun _ h => by cases h)
section
variable (P : Program)
def wpdR (F : St → Prop) (m0 : Nat) (ops : Array Oper) (S : List Nat) (K : (Nat → AV) → St → Prop) : Nat → List Oper → (Nat → AV) → St → Prop
  | _, [], fr, σ => K fr σ
  | i, o :: rest, fr, σ => if S.contains i = true then ∃ a σ', AStep P ops o fr σ a σ' ∧ (cnt S i + 1 ≤ m0 → F σ') ∧ wpdR F m0 ops S K (i + 1) rest (putO fr o.dst a) σ'
    else ∃ a, ((∀ τ, AStep P ops o fr τ a τ) ∨ ((win ops S i).all (fun j => Nat.ble j m0) = true ∧ ∀ τ, F τ → AStep P ops o fr τ a τ) ∨ ((win ops S i).all (· == cnt S i) = true ∧ AStep P ops o fr σ a σ)) ∧ wpdR F m0 ops S K (i + 1) rest (putO fr o.dst a) σ
end
section
variable {P : Program} {w0 : World} {n : Nat} {σ : St} {ops : Array Oper} {S : List Nat} {F : St → Prop} {m0 : Nat}
theorem wpdR_steps {K : (Nat → AV) → St → Prop} (fr0 : Nat → AV) (hs : srt S ops.size = true) (hl : cnt S ops.size = S.length) : ∀ (m i : Nat) (aas : Nat → AV) (σs : Nat → St), i + m = ops.size → (∀ j, j ≤ cnt S i → j ≤ m0 → F (σs j)) → wpdR P F m0 ops S K i (ops.toList.drop i) (frT ops fr0 aas i) (σs (cnt S i)) →
    ∃ (aas' : Nat → AV) (σs' : Nat → St), (∀ k, k < i → aas' k = aas k) ∧ (∀ j, j ≤ cnt S i → σs' j = σs j) ∧ (∀ j, j ≤ cnt S ops.size → j ≤ m0 → F (σs' j)) ∧ K (frT ops fr0 aas' ops.size) (σs' (cnt S ops.size)) ∧
      ∀ (k : Nat) (o : Oper), i ≤ k → ops[k]? = some o → (S.contains k = true → AStep P ops o (frT ops fr0 aas' k) (σs' (cnt S k)) (aas' k) (σs' (cnt S k + 1))) ∧
        (S.contains k = false → ∀ j ∈ win ops S k, AStep P ops o (frT ops fr0 aas' k) (σs' j) (aas' k) (σs' j))
  | 0, i, aas, σs, hi, hF, h => by
    rw [List.drop_of_length_le (by simp; omega)] at h
    have : i = ops.size := by omega
    subst this
    exact ⟨aas, σs, fun _ _ => rfl, fun _ _ => rfl, hF, h, fun k o hk ho => by have := (Array.getElem?_eq_some_iff.1 ho).1; omega⟩
  | m + 1, i, aas, σs, hi, hF, h => by
    have hlt : i < ops.size := by omega
    have hc : cnt S (i + 1) = if S.contains i then cnt S i + 1 else cnt S i := by
      have h2 := hs
      simp only [srt, Bool.and_eq_true, List.all_eq_true] at h2
      simpa using h2.2 i (by simpa using hlt)
    rw [List.drop_eq_getElem_cons (by simpa using hlt)] at h
    simp only [Array.getElem_toList] at h
    have hd : dstAt ops i = ops[i].dst := by simp [dstAt, Array.getElem?_eq_getElem hlt]
    have e1 (x : AV) : frT ops fr0 (fun k => if k = i then x else aas k) i = frT ops fr0 aas i := frT_congr fr0 i (fun k hk => by rw [if_neg (by omega)])
    have e2 (x : AV) : frT ops fr0 (fun k => if k = i then x else aas k) (i + 1) = putO (frT ops fr0 aas i) ops[i].dst x := by
      simp only [frT]
      rw [e1, hd]
      simp
    simp only [wpdR] at h
    split at h
    · rename_i hin
      obtain ⟨x, σ', h1, hFs, h2⟩ := h
      rw [if_pos hin] at hc
      rw [← e2] at h2
      obtain ⟨f, hf1, hf2⟩ : ∃ f : Nat → St, (∀ j, j ≤ cnt S i → f j = σs j) ∧ f (cnt S i + 1) = σ' := ⟨fun j => if j = cnt S i + 1 then σ' else σs j, fun j hj => if_neg (by omega), if_pos rfl⟩
      obtain ⟨aas', σs', k1, k2, kF, k3, k4⟩ := wpdR_steps (K := K) fr0 hs hl m (i + 1) (fun k => if k = i then x else aas k) f (by omega) (fun j hj hm => by
        by_cases e : j = cnt S i + 1
        · rw [e, hf2]; exact hFs (by omega)
        · rw [hf1 j (by omega)]; exact hF j (by omega) hm) (by rw [hc, hf2]; exact h2)
      have hk : ∀ k, k < i → aas' k = aas k := fun k hk => by rw [k1 k (by omega), if_neg (by omega)]
      have hj : ∀ j, j ≤ cnt S i → σs' j = σs j := fun j hj => by rw [k2 j (by omega), hf1 j hj]
      refine ⟨aas', σs', hk, hj, kF, k3, fun k o hik ho => ?_⟩
      by_cases hki : k = i
      · subst hki
        rw [Array.getElem?_eq_getElem hlt] at ho
        cases ho
        have ha : aas' k = x := by rw [k1 k (by omega)]; simp
        refine ⟨fun _ => ?_, fun hno => by rw [hin] at hno; cases hno⟩
        rw [ha, frT_congr fr0 k hk, hj _ (Nat.le_refl _), k2 (cnt S k + 1) (by omega), hf2]
        exact h1
      · exact k4 k o (by omega) ho
    · rename_i hin
      obtain ⟨x, h1, h2⟩ := h
      rw [if_neg hin] at hc
      rw [← e2] at h2
      obtain ⟨aas', σs', k1, k2, kF, k3, k4⟩ := wpdR_steps fr0 hs hl m (i + 1) _ σs (by omega) (fun j hj hm => hF j (by omega) hm) (by rw [hc]; exact h2)
      have hk : ∀ k, k < i → aas' k = aas k := fun k hk => by rw [k1 k (by omega), if_neg (by omega)]
      have hj : ∀ j, j ≤ cnt S i → σs' j = σs j := fun j hj => k2 j (by omega)
      refine ⟨aas', σs', hk, hj, kF, k3, fun k o hik ho => ?_⟩
      by_cases hki : k = i
      · subst hki
        rw [Array.getElem?_eq_getElem hlt] at ho
        cases ho
        have ha : aas' k = x := by rw [k1 k (by omega)]; simp
        refine ⟨fun hyes => absurd hyes hin, fun _ j hjw => ?_⟩
        rw [ha, frT_congr fr0 k hk]
        rcases h1 with h1 | ⟨hw, h1⟩ | ⟨hw, h1⟩
        · exact h1 _
        · rw [List.all_eq_true] at hw
          have hjm := Nat.le_of_ble_eq_true (hw j hjw)
          refine h1 _ (kF j ?_ hjm)
          unfold win at hjw
          have := List.mem_range.1 (List.mem_filter.1 hjw).1
          omega
        · rw [List.all_eq_true] at hw
          have : j = cnt S k := by simpa using hw j hjw
          rw [this, hj _ (Nat.le_refl _)]
          exact h1
      · exact k4 k o (by omega) ho
theorem awp_drawR (hm : P.follows .mixedOrders = true) {id : Nat} {Q : AExit → (Nat → AV) → St → Prop} {fr : Nat → AV} (S : List Nat) (hd : allDst n ops = true) (hchk : drawChk ops S = true) (hs : srt S ops.size = true) (hl : cnt S ops.size = S.length) (F : St → Prop) (m0 : Nat) (hF : F σ) (h : wpdR P F m0 ops S (Q .normal) 0 ops.toList fr σ) : AWP P n (.region id ops true) Q fr σ := by
  have hc0 : cnt S 0 = 0 := by simp [cnt, Nat.blt]
  obtain ⟨aas, σs, _, h2, _, h3, h4⟩ := wpdR_steps (P := P) (ops := ops) (S := S) (K := Q .normal) (F := F) (m0 := m0) fr hs hl ops.size 0 (fun _ => .junk) (fun _ => σ) (by omega) (fun _ _ _ => hF) (by simpa [frT] using h)
  refine awp_draw (P := P) hm hd hchk aas σs (fun i j o ho hj => ?_) (fun i o ho hi j hj => ?_) (by rw [← hl]; exact h3) (h2 0 (by omega))
  · have hi : S.contains i = true := by simpa using List.mem_of_getElem? hj
    have hcj : cnt S i = j := by
      have h2 := hs
      simp only [srt, Bool.and_eq_true, List.all_eq_true] at h2
      have hjl := (List.getElem?_eq_some_iff.1 hj).1
      have := h2.1 j (by simpa using hjl)
      rw [List.getD_eq_getElem?_getD, hj] at this
      simpa using this
    have := (h4 i o (Nat.zero_le _) ho).1 hi
    rw [hcj] at this
    exact this
  · exact (h4 i o (Nat.zero_le _) ho).2 (by simpa using hi) j hj
theorem wpdR_nil {K : (Nat → AV) → St → Prop} {i : Nat} {fr : Nat → AV} (h : K fr σ) : wpdR P F m0 ops S K i [] fr σ := h
theorem wpdR_p {K : (Nat → AV) → St → Prop} {i : Nat} {o : Oper} {rest : List Oper} {l : List (Nat × AV)} {a : AV} {t : Tmp} (hS : S.contains i = false) (hd : o.dst = some t) (hg : guardOf ops o (fm l) = some true) (ho : OpP P o (fm l) a) (h : wpdR P F m0 ops S K (i + 1) rest (fm ((t, a) :: l)) σ) : wpdR P F m0 ops S K i (o :: rest) (fm l) σ := by
  simp only [wpdR]
  rw [if_neg (by rw [hS]; simp)]
  refine ⟨a, .inl fun τ => ?_, by rw [hd]; exact h⟩
  simp only [AStep, hg]
  exact ho τ
theorem wpdR_mv {a : AV} {K : (Nat → AV) → St → Prop} {i : Nat} {o : Oper} {rest : List Oper} {l : List (Nat × AV)} {t : Nat} (hS : S.contains i = false) (hd : o.dst = some t) (hg : guardOf ops o (fm l) = some true)
    (ho : OpP P o (fm l) a) (h : wpdR P F m0 ops S K (i + 1) rest (fm ((t, a) :: l)) σ) : wpdR P F m0 ops S K i (o :: rest) (fm l) σ := wpdR_p hS hd hg ho h
theorem wpdR_rd {a : AV} {K : (Nat → AV) → St → Prop} {i : Nat} {o : Oper} {rest : List Oper} {l : List (Nat × AV)} {t : Tmp} (hS : S.contains i = false) (hw : (win ops S i).all (· == cnt S i) = true) (hd : o.dst = some t) (hg : guardOf ops o (fm l) = some true) (ho : OpS P o (fm l) σ (fun a' τ => a' = a ∧ τ = σ)) (h : wpdR P F m0 ops S K (i + 1) rest (fm ((t, a) :: l)) σ) : wpdR P F m0 ops S K i (o :: rest) (fm l) σ := by
  simp only [wpdR]
  rw [if_neg (by rw [hS]; simp)]
  refine ⟨a, .inr (.inr ⟨hw, ?_⟩), by rw [hd]; exact h⟩
  simp only [AStep, hg]
  exact ho
theorem wpdR_rdp {a : AV} {K : (Nat → AV) → St → Prop} {i : Nat} {o : Oper} {rest : List Oper} {l : List (Nat × AV)} {t : Tmp} (hS : S.contains i = false) (hw : (win ops S i).all (fun j => Nat.ble j m0) = true) (hd : o.dst = some t) (hg : guardOf ops o (fm l) = some true) (ho : ∀ σ, F σ → OpS P o (fm l) σ (fun a' τ => a' = a ∧ τ = σ)) (h : wpdR P F m0 ops S K (i + 1) rest (fm ((t, a) :: l)) σ) : wpdR P F m0 ops S K i (o :: rest) (fm l) σ := by
  simp only [wpdR]
  rw [if_neg (by rw [hS]; simp)]
  refine ⟨a, .inr (.inl ⟨hw, fun τ hτ => ?_⟩), by rw [hd]; exact h⟩
  simp only [AStep, hg]
  exact ho τ hτ
theorem wpdR_bdrp {α β : Type} {z : Option α} {k : α → Option β} {r : β} (H : z.bind k = some r) (enc : α → AV) {K : (Nat → AV) → St → Prop} {i : Nat} {o : Oper} {rest : List Oper} {l : List (Nat × AV)} {t : Nat} (hS : S.contains i = false) (hw : (win ops S i).all (fun j => Nat.ble j m0) = true) (hd : o.dst = some t) (hg : guardOf ops o (fm l) = some true)
    (ho : ∀ x, z = some x → ∀ σ, F σ → OpS P o (fm l) σ (fun a τ => a = enc x ∧ τ = σ)) (h : ∀ x, z = some x → k x = some r → wpdR P F m0 ops S K (i + 1) rest (fm ((t, enc x) :: l)) σ) : wpdR P F m0 ops S K i (o :: rest) (fm l) σ := by
  obtain ⟨x, hx, H⟩ := Option.bind_eq_some_iff.1 H
  exact wpdR_rdp hS hw hd hg (ho x hx) (h x hx H)
theorem wpdR_s1 {a : AV} {τ : St} {K : (Nat → AV) → St → Prop} {i : Nat} {o : Oper} {rest : List Oper} {l : List (Nat × AV)} {t : Tmp} (hS : S.contains i = true) (hd : o.dst = some t) (hg : guardOf ops o (fm l) = some true) (ho : OpS P o (fm l) σ (fun a' τ' => a' = a ∧ τ' = τ)) (h : (cnt S i + 1 ≤ m0 → F τ) ∧ wpdR P F m0 ops S K (i + 1) rest (fm ((t, a) :: l)) τ) : wpdR P F m0 ops S K i (o :: rest) (fm l) σ := by
  simp only [wpdR]
  rw [if_pos hS]
  refine ⟨a, τ, ?_, h.1, by rw [hd]; exact h.2⟩
  simp only [AStep, hg]
  exact ho
theorem wpdR_s0 {a : AV} {τ : St} {K : (Nat → AV) → St → Prop} {i : Nat} {o : Oper} {rest : List Oper} {l : List (Nat × AV)} (hS : S.contains i = true) (hd : o.dst = none) (hg : guardOf ops o (fm l) = some true) (ho : OpS P o (fm l) σ (fun a' τ' => a' = a ∧ τ' = τ)) (h : (cnt S i + 1 ≤ m0 → F τ) ∧ wpdR P F m0 ops S K (i + 1) rest (fm l) τ) : wpdR P F m0 ops S K i (o :: rest) (fm l) σ := by
  simp only [wpdR]
  rw [if_pos hS]
  refine ⟨a, τ, ?_, h.1, by rw [hd]; exact h.2⟩
  simp only [AStep, hg]
  exact ho
theorem wpdR_a {av : Nat → AV} {R : Nat → St → Prop} {K : (Nat → AV) → St → Prop} {i : Nat} {o : Oper} {rest : List Oper} {l : List (Nat × AV)} {t : Nat} (hS : S.contains i = true) (hd : o.dst = some t) (hg : guardOf ops o (fm l) = some true)
    (ho : ∃ b τ, OpS P o (fm l) σ (fun a' τ' => a' = av b ∧ τ' = τ) ∧ R b τ) (h : ∀ b τ, R b τ → (cnt S i + 1 ≤ m0 → F τ) ∧ wpdR P F m0 ops S K (i + 1) rest (fm ((t, av b) :: l)) τ) : wpdR P F m0 ops S K i (o :: rest) (fm l) σ := by
  obtain ⟨b, τ, h1, h2⟩ := ho
  exact wpdR_s1 hS hd hg h1 (h b τ h2)
theorem wpdR_z {R : St → Prop} {K : (Nat → AV) → St → Prop} {i : Nat} {o : Oper} {rest : List Oper} {l : List (Nat × AV)} (hS : S.contains i = true) (hd : o.dst = none) (hg : guardOf ops o (fm l) = some true)
    (ho : ∃ τ, OpS P o (fm l) σ (fun a' τ' => a' = .junk ∧ τ' = τ) ∧ R τ) (h : ∀ τ, R τ → (cnt S i + 1 ≤ m0 → F τ) ∧ wpdR P F m0 ops S K (i + 1) rest (fm l) τ) : wpdR P F m0 ops S K i (o :: rest) (fm l) σ := by
  obtain ⟨τ, h1, h2⟩ := ho
  exact wpdR_s0 hS hd hg h1 (h τ h2)
theorem wpdR_cb {α β : Type} {z : Option α} {k : α → Option β} {r : β} (H : z.bind k = some r) (av : α → Nat → AV) {R : α → Nat → St → Prop} {K : (Nat → AV) → St → Prop} {i : Nat} {o : Oper} {rest : List Oper} {l : List (Nat × AV)} {t : Nat} (hS : S.contains i = true) (hd : o.dst = some t) (hg : guardOf ops o (fm l) = some true)
    (ho : ∀ x, z = some x → ∃ b τ, OpS P o (fm l) σ (fun a' τ' => a' = av x b ∧ τ' = τ) ∧ R x b τ) (h : ∀ x b τ, z = some x → k x = some r → R x b τ → (cnt S i + 1 ≤ m0 → F τ) ∧ wpdR P F m0 ops S K (i + 1) rest (fm ((t, av x b) :: l)) τ) : wpdR P F m0 ops S K i (o :: rest) (fm l) σ := by
  obtain ⟨x, hx, H⟩ := Option.bind_eq_some_iff.1 H
  obtain ⟨b, τ, h1, h2⟩ := ho x hx
  exact wpdR_s1 hS hd hg h1 (h x b τ hx H h2)
end
section
variable {P : Program} {Ty : TypeId → Option TI} {fr : Nat → AV} {d : Option Tmp} {ty : TypeId} {pos : String} {af : Array Edge} {g : Option (Nat × Bool)} {ox oy : Operand} {ts : Array TypeId}
theorem o_max (hT : TyOk P Ty) {k : IntKind} {x y : Int} (hx : aeval fr ox = .int k x) (hy : aeval fr oy = .int k y) : OpP P ⟨d, .call ⟨.builtin .max, #[ox, oy], ts⟩, ty, pos, af, g⟩ fr (.int k (if y > x then y else x)) :=
  OpP.of_aop' hT (mu := false) rfl (fun τ => by simp only [aop, hx, hy, amm]; rfl)
end
section
variable {P : Program} {σ : St} {Ty : TypeId → Option TI} {σ0 : St} {O : List (Nat × List AV)} {A' : List Nat} {fr : Nat → AV} {d : Option Tmp} {ty : TypeId} {pos : String} {af : Array Edge} {g : Option (Nat × Bool)} {ox oy oi : Operand} {T T' E U : TypeId} {α : Type} {e : α → AV} {sz : Nat}
def updV {α : Type} {n : Nat} (v : Vector α n) (i : Int) (f : α → α) : Option (Vector α n) := if h : 0 ≤ i ∧ i.toNat < n then some (v.set i.toNat (f v[i.toNat])) else none
theorem updV_some {α : Type} {n : Nat} {v v' : Vector α n} {i : Int} {f : α → α} (h : updV v i f = some v') : ∃ x, v.toList[i.toNat]? = some x ∧ v'.toList = v.toList.set i.toNat (f x) := by
  unfold updV at h
  split at h
  · rename_i hi
    cases h
    exact ⟨v[i.toNat], by simp [hi.2], by first | rfl | simp⟩
  · cases h
theorem acut_r {A B : List AV} {L o : Nat} {a : AV} (hL : A.length = L) (h : acut Ty T B o = some a) : acut Ty T (A ++ B) (L + o) = some a := by
  subst hL
  unfold acut at h ⊢
  cases hi : Ty T with
  | none => rw [hi] at h; cases h
  | some ti =>
    rw [hi] at h
    simp only at h ⊢
    split
    · rename_i ha
      rw [if_pos ha] at h
      split at h
      · rename_i hle
        rw [if_pos (by simp; omega), ← h, List.drop_length_add_append]
      · cases h
    · rename_i ha
      rw [if_neg ha] at h
      rw [List.getElem?_append_right (by omega), Nat.add_sub_cancel_left]; exact h
theorem acut_l {A B : List AV} {o : Nat} {a : AV} (hle : o + szOf Ty T ≤ A.length) (h : acut Ty T A o = some a) : acut Ty T (A ++ B) o = some a := by
  unfold acut at h ⊢
  cases hi : Ty T with
  | none => rw [hi] at h; cases h
  | some ti =>
    rw [hi] at h
    have hz : szOf Ty T = ti.sz := by simp [szOf, hi]
    simp only at h ⊢
    split
    · rename_i ha
      rw [if_pos ha] at h
      split at h
      · rename_i hle
        rw [if_pos (by simp; omega), ← h, List.drop_append_of_le_length (by omega), List.take_append_of_le_length (by simp; omega)]
      · cases h
    · rename_i ha
      rw [if_neg ha] at h
      rw [List.getElem?_append_left (List.getElem?_eq_some_iff.1 h).1]; exact h
theorem repl_r {A B new : List AV} {L o : Nat} (hL : A.length = L) : repl (A ++ B) (L + o) new = A ++ repl B o new := by
  subst hL
  simp only [repl, List.take_length_add_append, List.append_assoc]
  rw [show A.length + o + new.length = A.length + (o + new.length) by omega, List.drop_length_add_append]
theorem repl_l {A B new : List AV} {o : Nat} (h : o + new.length ≤ A.length) : repl (A ++ B) o new = repl A o new ++ B := by
  simp only [repl, List.append_assoc]
  rw [List.take_append_of_le_length (by omega), List.drop_append_of_le_length (by omega)]
theorem o_arrb (hT : TyOk P Ty) {m id off : Nat} {kk : IntKind} {i : Int} {u : Unit} (h : chk m i = some u) (hd : tdOf Ty T = .arr m E) (hz : szOf Ty E = sz) (hs : sz ≠ 0) (hx : aeval fr ox = .ref id off) (hi : aeval fr oi = .int kk i) : OpP P ⟨d, .indexAddr T ox oi, ty, pos, af, g⟩ fr (.ref id (off + i.toNat * sz + 0)) := o_arrv hT (chk_some h).1 (chk_some h).2 hd hz hs hx hi
theorem h_ldb (hT : TyOk P Ty) (hH : Holds σ0 O A' σ) (k : Nat) {id m base : Nat} {A B c : List AV} {l : List α} {i : Int} {y : α} {o : Nat} {a : AV} (h : ixA m l i = some y) (hk : O[k]? = some (id, c)) (hc : c = A ++ (cL e l ++ B)) (hA : A.length = base) (he : Enc Ty E sz e) (ha : acut Ty T (e y).cells o = some a) (ho : o + szOf Ty T ≤ sz) (hx : aeval fr ox = .ref id (base + i.toNat * sz + o)) :
    OpS P ⟨d, .load T ox, ty, pos, af, g⟩ fr σ (fun a' τ => a' = a ∧ τ = σ) := by
  obtain ⟨_, _, h2⟩ := ixA_some h
  have hil : i.toNat < l.length := (List.getElem?_eq_some_iff.1 h2).1
  have h3 : i.toNat * sz + sz ≤ l.length * sz := by rw [← Nat.succ_mul]; exact Nat.mul_le_mul_right _ hil
  refine h_ld hT hH k hk ?_ hx (by rw [hc]; exact spcl_mid he (by omega))
  rw [hc, Nat.add_assoc]
  exact acut_r hA (acut_l (by rw [cL_length he.len]; omega) (acut_at he h2 ha (fun _ _ => ho)))
theorem h_stb (hT : TyOk P Ty) (hH : Holds σ0 O A' σ) (k : Nat) {ti : TI} {id n base : Nat} {A B c c' : List AV} {v v' : Vector α n} {i : Int} {f : α → α} {y b : AV} {o : Nat} (h : updV v i f = some v') (hk : O[k]? = some (id, c)) (hc : c = A ++ (cL e v.toList ++ B)) (hc' : c' = A ++ (cL e v'.toList ++ B)) (hA : A.length = base) (he : Enc Ty E sz e) (hi : Ty T = some ti) (hne : oy ≠ ox) (hx : aeval fr ox = .ref id (base + i.toNat * sz + o)) (hy : aeval fr oy = y) (hw : Wk y b)
    (hf : b.cells.all flatAV = true) (hl : b.cells.length = ti.sz) (hle : o + ti.sz ≤ sz) (hcs : ∀ x, repl (e x).cells o b.cells = (e (f x)).cells) :
    ∃ τ, OpS P ⟨d, .store T ox oy, ty, pos, af, g⟩ fr σ (fun a' τ' => a' = .junk ∧ τ' = τ) ∧ Holds σ0 (O.set k (id, c')) A' τ := by
  obtain ⟨x, h2, h3⟩ := updV_some h
  have hil : i.toNat < v.toList.length := (List.getElem?_eq_some_iff.1 h2).1
  have hlen := cL_length he.len v.toList
  have h4 : i.toNat * sz + sz ≤ v.toList.length * sz := by rw [← Nat.succ_mul]; exact Nat.mul_le_mul_right _ hil
  refine h_st hT hH k hk hi hne hx hy hw hf hl (by rw [hc]; simp only [List.length_append]; omega) c' ?_ (by rw [hc]; exact spcl_mid he (by omega))
  rw [hc, hc', Nat.add_assoc, repl_r hA, repl_l (by omega), h3]
  rw [repl_at he.len h2 (hcs x) (by omega)]
end
def NewO {α : Type} (cS : α → List AV) (rest : List AV) (σ : St) : Option α → AV → St → Prop
  | none, a, τ => a = .tup (.nilp :: rest) ∧ τ = σ
  | some c, a, τ => a = .tup (.ref σ.objs.length 0 :: rest) ∧ τ = ⟨σ.objs ++ [cS c], σ.opn, σ.gl⟩
def NewE {α : Type} (cS : α → List AV) (rest : List AV) (σ : St) : Option α → AV → St → Prop
  | none, a, τ => a = .tup (.nilp :: rest) ∧ Holds σ [] [] τ
  | some c, a, τ => ∃ id, a = .tup (.ref id 0 :: rest) ∧ σ.objs.length ≤ id ∧ Holds σ [(id, cS c)] [] τ
theorem NewE.some {α : Type} {cS : α → List AV} {rest : List AV} {σ τ : St} {c : α} {id : Nat} (h1 : σ.objs.length ≤ id) (h2 : Holds σ [(id, cS c)] [] τ) : NewE cS rest σ (some c) (.tup (.ref id 0 :: rest)) τ := ⟨id, rfl, h1, h2⟩
theorem NewE.none {α : Type} {cS : α → List AV} {rest : List AV} {σ τ : St} (h : Holds σ [] [] τ) : NewE cS rest σ none (.tup (.nilp :: rest)) τ := ⟨rfl, h⟩
section
variable {P : Program} {σ : St}
end
section
variable {P : Program} {σ σ0 : St} {O : List (Nat × List AV)} {A' : List Nat} {fr : Nat → AV}
end
section
variable {P : Program} {Ty : TypeId → Option TI} {w0 : World} {G : Ghost} {w : World} {σ : St}
theorem setCells_setRow (b off : Nat) (T : TypeId) (news : List Value) (vs : Array Value) (w : World) (h : w.heap[b]? = some (.cells vs T (0, 0))) (hl : off + news.length ≤ vs.size) (h1 : ∀ v ∈ news, v.oneCell' = true) :
    w.setCells b off news = w.setRow b (vs.toList.take off ++ news ++ vs.toList.drop (off + news.length)).toArray := by
  have e1 := run_storeCells_at default b off T news 0 vs w h (by omega) h1
  have e2 := run_storeCells_cells (P := default) b off news 0 w (fun j hj => by rw [cell_of_row _ _ _ vs T (0, 0) h, Array.getElem?_eq_getElem (by omega)]; rfl) (fun j hj => frozen_of_row _ _ _ vs T h) h1
  rw [e1] at e2
  simp only [Nat.add_zero] at e2
  injection e2 with _ e2
  exact e2.symm
theorem Inv.write (h : Inv w0 G w σ) {id b off : Nat} {cells nc : List AV} {news : List Value} (hc : σ.objs[id]? = some cells) (hl : G.loc id = some b) (hne : cells ≠ []) (hsp : spcl cells = false) (hN : RelL G news nc) (h1 : ∀ v ∈ news, v.oneCell' = true) (h0 : off ≤ cells.length) (hfit : off + news.length ≤ G.bsz id) :
    Inv w0 G (w.setCells b off news) ⟨σ.objs.set id (cells.take off ++ nc ++ cells.drop (off + nc.length)), σ.opn, σ.gl⟩ := by
  obtain ⟨b', T, vs, k1, k2, k3, k4, k5, k6⟩ := h.loc _ _ hc hne hsp
  rw [hl] at k1
  injection k1 with k1
  subst k1
  have hcv := k4.le
  rw [setCells_setRow b off T news vs w k3 (by omega) h1]
  have hnl := hN.len
  refine h.set_loc hc hne hl k2 k3 ⟨?_, ?_⟩ (fun v hv => ?_) ?_
  · simp; omega
  · have e : (vs.toList.take off ++ news ++ vs.toList.drop (off + news.length)).toArray.toList.take (cells.take off ++ nc ++ cells.drop (off + nc.length)).length = (vs.toList.take cells.length).take off ++ news ++ (vs.toList.take cells.length).drop (off + news.length) := by
      apply List.ext_getElem?
      intro k
      simp only [List.toList_toArray, List.getElem?_take, List.getElem?_append, List.length_append, List.length_take, List.length_drop, List.getElem?_drop, Array.length_toList]
      repeat' split
      all_goals first | rfl | omega | (congr 1; omega) | (rw [List.getElem?_eq_none]; simp; omega) | (symm; rw [List.getElem?_eq_none]; simp; omega)
    rw [e]
    have := ((k4.rel.take off).append hN).append (k4.rel.drop (off + news.length))
    rw [hnl] at this ⊢
    exact this
  · simp only [List.toList_toArray, List.mem_append] at hv
    rcases hv with (hv | hv) | hv
    · exact k5 v (List.mem_of_mem_take hv)
    · exact h1 v hv
    · exact k5 v (List.mem_of_mem_drop hv)
  · rw [← k6]; simp; omega
def aslice2 (Ty : TypeId → Option TI) (T : TypeId) (x : AV) (lo hi mx : Option AV) : Option AV :=
  match tdOf Ty T, x with
  | .slice e, .vec id sz len => match abnd 0 lo, abnd len hi with
    | some l, some h => if mx.isSome = false ∧ l < h ∧ h ≤ len ∧ sz = szOf Ty e ∧ sz ≠ 0 then some (.msl id (l * sz) (h - l)) else none
    | _, _ => none
  | .slice e, .vc id sz off len cap => match abnd 0 lo, abnd len hi, abnd cap mx with
    | some l, some h, some m => if (mx.isSome = true → hi.isSome = true) ∧ l ≤ h ∧ h ≤ m ∧ m ≤ cap ∧ sz = szOf Ty e ∧ sz ≠ 0 then some (.vc id sz (if m = l then off else off + l * sz) (h - l) (m - l)) else none
    | _, _, _ => none
  | _, _ => none
def aindexAddr2 (Ty : TypeId → Option TI) (T : TypeId) (x ix : AV) : Option AV :=
  match ix, tdOf Ty T, x with
  | .int _ i, .slice e, .vec id sz len => if 0 ≤ i ∧ i < len ∧ sz = szOf Ty e ∧ sz ≠ 0 then some (.ref id (0 + i.toNat * sz)) else none
  | .int _ i, .slice e, .vc id sz off len _ => if 0 ≤ i ∧ i < len ∧ sz = szOf Ty e ∧ sz ≠ 0 then some (.ref id (off + i.toNat * sz)) else none
  | _, _, _ => none
def alen2 (Ty : TypeId → Option TI) (T : TypeId) (x : AV) : Option AV :=
  match tdOf Ty T, x with
  | .slice _, .vec _ _ len => some (.int .i64 len)
  | .slice _, .vc _ _ _ len _ => some (.int .i64 len)
  | _, _ => none
def aappendC (Ty : TypeId → Option TI) (t tx : TypeId) (x y : AV) (σ : St) : Option (AV × St) :=
  match tdOf Ty t, x with
  | .slice e, .vc id sz off len cap => match Ty e, σ.row id with
    | some i, some cells => match srcC Ty tx i.sz σ y with
      | some (n, ys) => if i.sz = sz ∧ len + n ≤ cap ∧ off + len * sz ≤ cells.length ∧ cells.isEmpty = false then
          some (.vc id sz off (len + n) cap, ⟨σ.objs.set id (cells.take (off + len * sz) ++ ys ++ cells.drop (off + len * sz + ys.length)), σ.opn, σ.gl⟩) else none
      | none => none
    | _, _ => none
  | _, _ => none
def aclear (Ty : TypeId → Option TI) (t : TypeId) (x : AV) (σ : St) : Option St :=
  match tdOf Ty t, x with
  | .slice e, .vc id sz off len cap => match Ty e, σ.row id with
    | some i, some cells => if i.sz = sz ∧ off ≤ cells.length ∧ cells.isEmpty = false then
          some ⟨σ.objs.set id (cells.take off ++ flat (List.replicate len i.zero) ++ cells.drop (off + (flat (List.replicate len i.zero)).length)), σ.opn, σ.gl⟩ else none
    | _, _ => none
  | _, _ => none
def acopy (Ty : TypeId → Option TI) (t tx : TypeId) (x y : AV) (σ : St) : Option (AV × St) :=
  match tdOf Ty t, x with
  | .slice e, .msl id off len => match Ty e, σ.row id with
    | some i, some cells => match srcC Ty tx i.sz σ y with
      | some (n, ys) => if off + len * i.sz ≤ cells.length ∧ cells.isEmpty = false ∧ n ≤ len then
          some (.int .i64 (n : Nat), ⟨σ.objs.set id (cells.take off ++ ys ++ cells.drop (off + ys.length)), σ.opn, σ.gl⟩) else none
      | none => none
    | _, _ => none
  | _, _ => none
def amake2 (Ty : TypeId → Option TI) (T : TypeId) (x y : AV) (σ : St) : Option (AV × St) :=
  match tdOf Ty T, x, y with
  | .slice e, .int _ n, .int _ c => match Ty e with
    | some i => if 0 ≤ n ∧ n ≤ c ∧ (0 < n ∨ c = 0) ∧ (i.bytes : Int) * c ≤ 281474976710656 ∧ c ≤ 9223372036854775807 then
        some (.vec σ.objs.length i.sz n.toNat, ⟨σ.objs ++ [flat (List.replicate n.toNat i.zero)], σ.opn, σ.gl⟩)
      else none
    | none => none
  | _, _, _ => none
def aop2 (Ty : TypeId → Option TI) (o : Oper) (ev : Operand → AV) (σ : St) : Option (AV × St) :=
  match o.op with
  | .makeSlice T l c => amake2 Ty T (ev l) (ev c) σ
  | .slice T x lo hi mx => pairO (aslice2 Ty T (ev x) (lo.map ev) (hi.map ev) (mx.map ev)) σ
  | .indexAddr T x i => pairO (aindexAddr2 Ty T (ev x) (ev i)) σ
  | .call c => match c.callee, c.args.toList, c.argTypes.toList with
    | .builtin .len, [x], T :: _ => pairO (alen2 Ty T (ev x)) σ
    | .builtin .append, [x, y], [T, U] => match ev x with
      | .vec _ _ _ => aappendV Ty T U (ev x) (ev y) σ
      | _ => aappendC Ty T U (ev x) (ev y) σ
    | .builtin .clear, [x], [T] => match aclear Ty T (ev x) σ with | some σ' => some (.tup [], σ') | none => none
    | .builtin .copy, [x, y], [T, U] => acopy Ty T U (ev x) (ev y) σ
    | _, _, _ => none
  | _ => none
open Classical in
end
noncomputable def Ghost.frz (G : Ghost) (b : Nat) (vs : List Value) (t top en : Nat) : Ghost :=
  { G with fz := fun x o => if x = b then vs[o]? else G.fz x o, tok := fun i => if i = t then some (b, top, en) else G.tok i, nt := t + 1 }
section
variable {P : Program} {Ty : TypeId → Option TI} {n : Nat} {σ : St} {ops : Array Oper}
theorem AWP.vec0 {c : Code} {Q : AExit → (Nat → AV) → St → Prop} {l : List (Nat × AV)} (t sz : Nat) (ht : Va.fm l t = .nils ∨ Va.fm l t = .sl .full sz [])
    (h : AWP P n c Q (Va.fm ((t, .vec σ.objs.length sz 0) :: l)) ⟨σ.objs ++ [[]], σ.opn, σ.gl⟩) : AWP P n c Q (Va.fm l) σ := fun w0 G a w hS => by
  refine wp_mono (h w0 G a w ⟨hS.inv.addNone, fun u => ?_, hS.size, hS.defers⟩) (fun _ _ _ h => h)
  simp only [Va.fm, upd]
  split
  · rename_i e
    subst e
    have hr := hS.frm u
    rcases ht with ht | ht
    · rw [ht] at hr
      cases hv : a.tmps.getD u undef <;> rw [hv] at hr <;> cases hr
      exact .vec0 _ _ _
    · rw [ht] at hr
      generalize a.tmps.getD u undef = v at hr
      cases hr with
      | sl b o c t sz es val hc hm hz hf h ht => 
        have := ht.1
        simp at this
        subst this
        exact .vec0 _ _ _
      | sl0 A c t sz hm ht =>
        obtain rfl := (ht.resolve_left (by simp)).1
        exact .vec0 _ _ _
  · exact hS.frm u
end
section
variable {P : Program} {Ty : TypeId → Option TI} {n : Nat} {σ : St} {ops : Array Oper} {σ0 : St} {O : List (Nat × List AV)} {A : List Nat} {fr : Nat → AV} {d : Option Tmp} {ty : TypeId} {pos : String} {af : Array Edge} {g : Option (Nat × Bool)} {ox oy oi : Operand} {T T' E U : TypeId} {α : Type} {e : α → AV} {sz : Nat}
def SrcV (Ty : TypeId → Option TI) (U : TypeId) (sz : Nat) (σ : St) (a : AV) (n : Nat) (cs : List AV) : Prop := srcC Ty U sz σ a = some (n, cs)
theorem cL_append (l m : List α) : cL e (l ++ m) = cL e l ++ cL e m := by simp [cL, flat_append]
def mkS {α : Type} (b : Nat) (m : Int) (z : α) : Option (List α) := if 0 ≤ m ∧ (b : Int) * m ≤ 281474976710656 ∧ m ≤ 9223372036854775807 then some (List.replicate m.toNat z) else none
theorem wk_vec00 (i j sz : Nat) : Wk (.vec i sz 0) (.vec j sz 0) := fun G v h => by
  cases h with
  | vec0 A _ _ => exact .vec0 _ _ _
  | vec _ _ _ _ _ h0 => exact absurd h0 (Nat.lt_irrefl 0)
theorem kept_new {σ' : St} {id : Nat} {c : List AV} (hid : σ.objs.length ≤ id) (hH : Holds σ [(id, c)] [] σ') (hc : ∀ ρ κ, cutL ρ κ c = c) : Kept σ σ' ⟨σ.objs ++ [c], σ.opn, σ.gl⟩ (fun i => if i = id then some σ.objs.length else idl σ.objs.length i) (idl σ.opn.length) := by
  refine ⟨fun i i' j h1 h2 => ?_, idl_inj _, fun i hi => ?_, fun i hi => by simp [idl, hi], fun i j h => ?_, fun t u h => (idl_lt h).2, Nat.le_refl _, rfl, fun j d hj => ?_, fun t u h hu => ?_⟩
  · try simp only at h1 h2
    split at h1 <;> split at h2
    · rename_i e1 e2; rw [e1, e2]
    · have := (idl_lt h2).2; cases h1; omega
    · have := (idl_lt h1).2; cases h2; omega
    · exact idl_inj _ _ _ _ h1 h2
  · try simp only
    rw [if_neg (by omega)]
    simp [idl, hi]
  · try simp only at h
    split at h
    · cases h; simp
    · have := (idl_lt h).2; simp; omega
  · by_cases hlt : j < σ.objs.length
    · simp only at hj
      rw [List.getElem?_append_left hlt] at hj
      refine ⟨j, d, by rw [if_neg (by omega)]; simp [idl, hlt], hH.base j d hj (fun p hp => ?_), .inl ⟨hj, rfl⟩⟩
      simp at hp
      subst hp
      simp only
      omega
    · have hj2 := (List.getElem?_eq_some_iff.1 hj).1
      simp at hj2
      have : j = σ.objs.length := by omega
      subst this
      simp at hj
      subst hj
      exact ⟨id, c, by simp, hH.obj (id, c) (by simp), .inr (hc _ _).symm⟩
  · obtain ⟨rfl, _⟩ := idl_lt h
    exact hH.opn t hu
theorem cut_vec {ρ κ : Nat → Option Nat} {id j q : Nat} (h : ρ id = some j) : Wk (cutAV ρ κ (.vec id sz q)) (.vec j sz q) := by
  simp only [cutAV]
  split
  · rename_i h0; subst h0; exact wk_vec00 _ _ _
  · rw [h]; exact Wk.refl _
theorem ACall.vec {gg : FuncId} {args : List AV} {q : Nat} {c : List AV} (hc : ∀ ρ κ, cutL ρ κ c = c) (h : ACall P gg args σ (fun a σ' => ∃ id, a = .vec id sz q ∧ σ.objs.length ≤ id ∧ Holds σ [(id, c)] [] σ')) : ACall P gg args σ (fun a σ' => a = .vec σ.objs.length sz q ∧ σ' = ⟨σ.objs ++ [c], σ.opn, σ.gl⟩) :=
  h.ren fun a σ' ⟨id, ha, hid, hH⟩ => by
    subst ha
    exact ⟨_, .vec σ.objs.length sz q, _, _, kept_new hid hH hc, cut_vec (by simp), rfl, rfl⟩
end
def delO {α : Type} (l : List α) (i j : Int) : Option (List α) := if 0 ≤ i ∧ i ≤ j ∧ j ≤ l.length ∧ i < l.length then some (l.take i.toNat ++ l.drop j.toNat) else none
section
variable {P : Program} {Ty : TypeId → Option TI} {n : Nat} {σ : St} {ops : Array Oper} {fr : Nat → AV} {d : Option Tmp} {ty : TypeId} {pos : String} {af : Array Edge} {g : Option (Nat × Bool)} {ox oy oi : Operand} {T T' E U : TypeId} {α : Type} {e : α → AV} {sz id off m cap : Nat}
theorem ACall.room {gg : FuncId} {rest : List AV} {K : AV → St → Prop} (h0 : 0 < m) (h : ∀ c, m ≤ c → ACall P gg (.vc id sz 0 m c :: rest) σ K) : ACall P gg (.vec id sz m :: rest) σ K := by
  refine ⟨(h m (Nat.le_refl _)).1, fun w0 G w vs hI hr => ?_⟩
  have hl := hr.len
  cases hv : vs.toList with
  | nil => rw [hv] at hl; simp at hl
  | cons v vs' =>
    rw [hv] at hr
    have h1 := hr.at_ 0 v _ rfl rfl
    cases h1 with
    | vec0 A _ _ => omega
    | vec _ _ _ c b h0 hc hm hl hs =>
      refine (h c hc).2 w0 G w vs hI ?_
      rw [hv]
      refine RelL.cons (.vc id sz 0 m c b hc hm hl (by omega)) ⟨by simpa using hr.len, fun i u a e1 e2 => hr.at_ (i + 1) u a (by simpa using e1) (by simpa using e2)⟩
theorem cL_take (he : ∀ x, (e x).cells.length = sz) (l : List α) (a : Nat) : (cL e l).take (a * sz) = cL e (l.take a) := by
  by_cases h : a ≤ l.length
  · have e1 : cL e l = cL e (l.take a) ++ cL e (l.drop a) := by rw [← cL_append, List.take_append_drop]
    rw [e1, List.take_left' (by rw [cL_length he, List.length_take, Nat.min_eq_left h])]
  · rw [List.take_of_length_le (by rw [cL_length he]; exact Nat.mul_le_mul_right _ (by omega)), List.take_of_length_le (by omega)]
theorem cL_drop (he : ∀ x, (e x).cells.length = sz) (l : List α) (a : Nat) : (cL e l).drop (a * sz) = cL e (l.drop a) := by
  by_cases h : a ≤ l.length
  · have e1 : cL e l = cL e (l.take a) ++ cL e (l.drop a) := by rw [← cL_append, List.take_append_drop]
    rw [e1, List.drop_left' (by rw [cL_length he, List.length_take, Nat.min_eq_left h])]
  · rw [List.drop_of_length_le (by rw [cL_length he]; exact Nat.mul_le_mul_right _ (by omega)), List.drop_of_length_le (by omega)]; rfl
end
end Go.Va
namespace Go.Va
end Go.Va
namespace Go.Va
def cpV {α : Type} {n : Nat} (v : Vector α n) (l : List α) : Option (Vector α n) := if h : l.length ≤ n then some ⟨(l ++ v.toList.drop l.length).toArray, by simp; omega⟩ else none
section
variable {P : Program} {Ty : TypeId → Option TI} {σ σ0 : St} {O : List (Nat × List AV)} {A' : List Nat} {ops : Array Oper} {fr : Nat → AV} {d : Option Tmp} {ty : TypeId} {pos : String} {af : Array Edge} {g : Option (Nat × Bool)} {ox oy oi : Operand} {T T' E U : TypeId} {α : Type} {e : α → AV} {sz id m cap : Nat}
end
end Go.Va
namespace Go.Va
open Go Go.RowKit
set_option linter.unusedVariables false
set_option linter.unusedSimpArgs false

def argG (w : World) : Ghost := ⟨fun b o => match w.cell? ⟨b, o, none⟩ with | some v => if v.oneCell' = true then some v else none | none => none, fun _ => none, fun _ => none, 0, fun _ => false, fun _ => 0⟩
theorem argG_fz {w : World} {b o : Nat} {v : Value} (h : w.cell? ⟨b, o, none⟩ = some v) (h1 : v.oneCell' = true) : (argG w).fz b o = some v := by
  simp [argG, h, h1]
theorem argG_inv (w : World) {gl : List (Addr × Value)} (hgl : ∀ p ∈ gl, w.cell? p.1 = some p.2) : Inv w (argG w) w ⟨[], [], gl⟩ := by
  refine ⟨Below.refl _ _, fun b o v h => ?_, fun id c h => by simp at h, fun id b o c h => by simp [argG] at h, fun id b h => by simp [argG] at h, fun id b h => by simp [argG] at h, fun i j b c d h => by simp [argG] at h, fun t b top en h => by simp at h, fun t x h => by simp [argG] at h, fun t t' x x' h => by simp at h, Nat.le_refl _, fun b h => by simp [argG] at h, hgl, fun id a h => by simp at h⟩
  simp only [argG] at h
  split at h
  case h_2 => cases h
  rename_i u hu
  split at h
  case isFalse => cases h
  rename_i h1
  cases h
  exact ⟨hu, h1⟩
theorem ACall.said {P : Program} {n : FuncId} {args : List AV} {vs : Array Value} {w : World} {gl : List (Addr × Value)} (hgl : ∀ p ∈ gl, w.cell? p.1 = some p.2) (hc : ACall P n args ⟨[], [], gl⟩ (fun a τ => a = eB true ∧ τ = ⟨[], [], gl⟩)) (hr : RelL (argG w) vs.toList args) :
    Calls P n vs w fun e w' => e = .returned (.bool true) ∧ Below w.heap.size w w' :=
  (hc.2 w (argG w) w vs (argG_inv w hgl) hr).mono fun e w' ⟨v, a, σ', G', h1, _, h3, h4, h5, _⟩ => by
    subst h5
    cases h4
    exact ⟨h1, h3.below⟩

def Opens (P : Program) (t : TypeId) {α : Type} (e : α → AV) (wf : α → Prop) : Prop :=
  ∀ {H : Type} (enc : TypeId × Value → H) (w : World) (fuel : Nat) (cs : List Value) (x : DataW H × List MemPlace), DataW.trod enc P w 0 (fun _ => true) true fuel t cs = some x → ∃ y : α, wf y ∧ RelL (argG w) cs (e y).cells ∧ ∀ v ∈ cs, v.oneCell' = true
def wfI (k : IntKind) (n : Int) : Prop := k.min ≤ n ∧ n ≤ k.max
def wfL {α : Type} (wf : α → Prop) (l : List α) : Prop := l.length ≤ maxLen ∧ ∀ x ∈ l, wf x
def wfS (s : List (BitVec 8)) : Prop := s.length ≤ maxLen
def wfT {α : Type} (_ : α) : Prop := True
section
variable {P : Program} {Ty : TypeId → Option TI} {t E : TypeId}
theorem wf_iff {k : IntKind} {n : Int} (h : (Lit.int k n).wf = true) : wfI k n := by
  simp only [Lit.wf, Bool.and_eq_true, decide_eq_true_eq] at h; exact h
theorem opens_i {k : IntKind} (h : P.underlying t = some (.int k)) : Opens P t (eK k) (wfI k) := by
  intro H enc w fuel cs x hx
  obtain ⟨n, rfl, _, hw⟩ := DataW.trod_int h hx
  exact ⟨n, wf_iff hw, (RelL.nil _).cons (.int _ _), by simp [Value.oneCell']⟩
theorem opens_i64 (h : P.underlying t = some (.int .i64)) : Opens P t eI (wfI .i64) := opens_i h
theorem opens_u {k : IntKind} {m : Nat} (hs : k.signed = false) (hb : k.bits = m) (h : P.underlying t = some (.int k)) : Opens P t (@eU k m) wfT := by
  subst hb
  intro H enc w fuel cs x hx
  obtain ⟨n, rfl, _, hw⟩ := DataW.trod_int h hx
  have hw := wf_iff hw
  simp only [wfI, IntKind.min, IntKind.max, hs, Bool.false_eq_true, if_false] at hw
  refine ⟨BitVec.ofInt k.bits n, trivial, ?_, by simp [Value.oneCell']⟩
  have e : ((BitVec.ofInt k.bits n).toNat : Int) = n := by
    rw [BitVec.toNat_ofInt]
    have h2 : (2 : Int) ^ k.bits = ((2 ^ k.bits : Nat) : Int) := by simp
    rw [h2] at hw
    rw [Int.emod_eq_of_lt hw.1 (by omega), Int.toNat_of_nonneg hw.1]
  show RelL _ _ [AV.int k ((BitVec.ofInt k.bits n).toNat : Int)]
  rw [e]
  exact (RelL.nil _).cons (.int _ _)
theorem opens_b (h : P.underlying t = some .bool) : Opens P t eB wfT := by
  intro H enc w fuel cs x hx
  obtain ⟨b, rfl, _⟩ := DataW.trod_bool h hx
  exact ⟨b, trivial, (RelL.nil _).cons (.bool _), by simp [Value.oneCell']⟩
theorem opens_s (h : P.underlying t = some .string) : Opens P t eS wfS := by
  intro H enc w fuel cs x hx
  obtain ⟨s, rfl, _, hs⟩ := DataW.trod_string h hx
  refine ⟨s.data.toList.map (·.toBitVec), ?_, ?_, by simp [Value.oneCell']⟩
  · simpa [wfS] using hs
  · show RelL _ _ [AV.str _]
    rw [mkB_of]
    exact (RelL.nil _).cons (.str _)
theorem cellsOf_ty (hT : TyOk P Ty) {i : TI} (h : Ty t = some i) : P.cellsOf t = i.sz := by
  obtain ⟨_, ti, z, h1, h2, _⟩ := hT t i h
  simp [Program.cellsOf, h1, h2]
theorem cellsOf_sz (hT : TyOk P Ty) {sz : Nat} (h : szOf Ty t = sz) (h0 : sz ≠ 0) : P.cellsOf t = sz := by
  unfold szOf at h
  split at h
  · rename_i i hi; rw [cellsOf_ty hT hi, h]
  · exact absurd h.symm h0
theorem opens_l (hT : TyOk P Ty) {sz : Nat} {α : Type} {e : α → AV} {wf : α → Prop} (h : P.underlying t = some (.slice E)) (he : Enc Ty E sz e) (ho : Opens P E e wf) : Opens P t (eL sz e) (wfL wf) := by
  intro H enc w fuel cs x hx
  rcases DataW.trod_slice h hx with ⟨rfl, _⟩ | ⟨a, len, cap, elems, rest, n, _, rfl, _, _, hlc, hcm, hel, hat, _, _⟩
  · exact ⟨[], ⟨Nat.zero_le _, fun x hx => by cases hx⟩, (RelL.nil _).cons (.sl0 none 0 .no sz (Nat.zero_le _) (.inl rfl)), by simp [Value.oneCell']⟩
  · rw [cellsOf_sz hT he.ty he.pos] at hat
    have key : ∀ i, i < len → ∃ cs' y, w.cells? 0 (a.add (i * sz)) sz = some cs' ∧ wf y ∧ RelL (argG w) cs' (e y).cells ∧ ∀ v ∈ cs', v.oneCell' = true := fun i hi => by
      have h1 := hat i hi
      rw [List.getElem?_eq_getElem (by omega)] at h1
      obtain ⟨cs', h2, h3⟩ := Option.bind_eq_some_iff.1 h1
      obtain ⟨y, h4, h5, h6⟩ := ho enc w n cs' _ h3
      exact ⟨cs', y, h2, h4, h5, h6⟩
    -- the values, one by one
    have all : ∀ m, m ≤ len → ∃ ys : List α, ys.length = m ∧ (∀ y ∈ ys, wf y) ∧ ∀ (i : Nat) (y : α), ys[i]? = some y → ∃ cs', w.cells? 0 (a.add (i * sz)) sz = some cs' ∧ RelL (argG w) cs' (e y).cells ∧ ∀ v ∈ cs', v.oneCell' = true := by
      intro m
      induction m with
      | zero => exact fun _ => ⟨[], rfl, (fun y hy => by cases hy), fun i y hy => by simp at hy⟩
      | succ m ih =>
        intro hm
        obtain ⟨ys, h1, h2, h3⟩ := ih (by omega)
        obtain ⟨cs', y, k1, k2, k3, k4⟩ := key m (by omega)
        refine ⟨ys ++ [y], by simp [h1], fun z hz => ?_, fun i z hz => ?_⟩
        · rcases List.mem_append.1 hz with hz | hz
          · exact h2 z hz
          · simp at hz; subst hz; exact k2
        · rw [List.getElem?_append] at hz
          split at hz
          · exact h3 i z hz
          · rename_i hi
            have : i - ys.length = 0 := by
              rcases Nat.eq_zero_or_pos (i - ys.length) with h0 | h0
              · exact h0
              · rw [List.getElem?_eq_none (by simp; omega)] at hz; cases hz
            rw [this] at hz
            simp at hz
            subst hz
            rw [show i = m by omega]
            exact ⟨cs', k1, k3, k4⟩
    obtain ⟨ys, h1, h2, h3⟩ := all len (Nat.le_refl _)
    refine ⟨ys, ⟨by omega, h2⟩, (RelL.nil _).cons ?_, by simp [Value.oneCell']⟩
    have hz : ∀ z ∈ ys.map e, z.cells.length = sz := fun z hz => by obtain ⟨y, _, rfl⟩ := List.mem_map.1 hz; exact he.len y
    cases ys with
    | nil =>
      simp at h1
      subst h1
      exact .sl0 _ _ .no sz hcm (.inl rfl)
    | cons y0 ys0 =>
      have hsp : a.spot = none := by
        obtain ⟨cs', k1, _, _⟩ := h3 0 y0 rfl
        obtain ⟨_, k2, k3⟩ := World.cells?_some k1
        have := k3 0 (Nat.pos_of_ne_zero he.pos)
        rw [Nat.zero_mul] at this
        have e0 : (a.add 0).add 0 = a := by simp [Addr.add]
        rw [e0, List.getElem?_eq_getElem (by have := Nat.pos_of_ne_zero he.pos; omega)] at this
        exact World.cell?_spot this
      obtain ⟨b, o, sp⟩ := a
      simp only at hsp
      subst hsp
      have hl : ((y0 :: ys0).map e).length = len := by rw [List.length_map]; exact h1
      have hcell : ∀ (i : Nat) (z : AV) (j : Nat) (u : AV), ((y0 :: ys0).map e)[i]? = some z → z.cells[j]? = some u → ∃ v, w.cell? ⟨b, o + i * sz + j, none⟩ = some v ∧ v.oneCell' = true ∧ Rel (argG w) v u := by
        intro i z j u e1 e2
        rw [List.getElem?_map, Option.map_eq_some_iff] at e1
        obtain ⟨y, e1, rfl⟩ := e1
        obtain ⟨cs', k1, k2, k3⟩ := h3 i y e1
        obtain ⟨_, k4, k5⟩ := World.cells?_some k1
        obtain ⟨v, hv, hr⟩ := k2.get e2
        have hj : j < sz := by rw [← k4]; exact (List.getElem?_eq_some_iff.1 hv).1
        have := k5 j hj
        rw [Addr.add_lit, Addr.add_lit, hv] at this
        exact ⟨v, this, k3 v (List.mem_of_getElem? hv), hr⟩
      have key2 := Rel.sl (G := argG w) b o cap .no sz ((y0 :: ys0).map e) (fun i j => (w.cell? ⟨b, o + i * sz + j, none⟩).getD undef) (by rw [hl]; exact hlc) hcm hz (fun i z j u e1 e2 => by
        obtain ⟨v, k1, k2, k3⟩ := hcell i z j u e1 e2
        rw [k1]
        exact argG_fz k1 k2) (fun i z j u e1 e2 => by
        obtain ⟨v, k1, k2, k3⟩ := hcell i z j u e1 e2
        rw [k1]
        exact k3) trivial
      rw [hl] at key2
      exact key2
theorem rel_piece {G : Ghost} {cs : List Value} {o s : Nat} {a b : List AV} (h : RelL G ((cs.drop o).take s) a) (k : RelL G (cs.drop (o + s)) b) : RelL G (cs.drop o) (a ++ b) := by
  have := h.append k
  rw [← List.drop_drop, List.take_append_drop] at this
  exact this
theorem rel_end {G : Ghost} {cs : List Value} {n : Nat} (h : cs.length = n) : RelL G (cs.drop n) [] := by
  rw [List.drop_of_length_le (by omega)]; exact RelL.nil G
theorem one_piece {cs : List Value} {o s : Nat} (h : ∀ v ∈ (cs.drop o).take s, v.oneCell' = true) (k : ∀ v ∈ cs.drop (o + s), v.oneCell' = true) : ∀ v ∈ cs.drop o, v.oneCell' = true := by
  intro v hv
  rw [← List.take_append_drop s (cs.drop o), List.drop_drop] at hv
  rcases List.mem_append.1 hv with hv | hv
  · exact h v hv
  · exact k v hv
theorem one_end {cs : List Value} {n : Nat} (h : cs.length = n) : ∀ v ∈ cs.drop n, v.oneCell' = true := by
  rw [List.drop_of_length_le (by omega)]; intro v hv; cases hv
theorem opens_f {fs : Array Field} {α : Type} {e : α → AV} {wf : α → Prop} {H : Type} {enc : TypeId × Value → H} {w : World} {m : Nat} {cs : List Value} {xs : List (DataW H × List MemPlace)} (hx : ∀ (i : Nat) (f : Field), fs[i]? = some f → DataW.trod enc P w 0 (fun _ => true) true m f.type ((cs.drop f.offset).take (P.cellsOf f.type)) = xs[i]?) (hl : xs.length = fs.size)
    (i : Nat) {f : Field} {o s : Nat} (hf : fs[i]? = some f) (ht : Opens P f.type e wf) (ho : f.offset = o) (hs : P.cellsOf f.type = s) : ∃ y, wf y ∧ RelL (argG w) ((cs.drop o).take s) (e y).cells ∧ ∀ v ∈ (cs.drop o).take s, v.oneCell' = true := by
  subst ho; subst hs
  have h1 := hx i f hf
  have hi : i < fs.size := (Array.getElem?_eq_some_iff.1 hf).1
  rw [List.getElem?_eq_getElem (by omega)] at h1
  exact ht enc w m _ _ h1
theorem Opens.arg {α : Type} {e : α → AV} {wf : α → Prop} (ho : Opens P t e wf) {sz : Nat} (he : Enc Ty t sz e) (hd : TdOk P t (tdOf Ty t)) {H : Type} {enc : TypeId × Value → H} {w : World} {r : Reach} {b0 : Nat} {v : Value} {d : DataW H} {ps : List MemPlace} (hval : Value.okWide P w r b0 t v) (h : DataW.Trod enc P w 0 (fun _ => true) true t v d ps) : ∃ y : α, wf y ∧ Rel (argG w) v (e y) := by
  obtain ⟨fuel, hf⟩ := h
  obtain ⟨y, h1, h2, _⟩ := ho enc w fuel _ _ hf
  refine ⟨y, h1, ?_⟩
  cases ha : isAggTD (tdOf Ty t) with
  | true =>
    have : ∃ cs, v = .agg cs := by
      cases htd : tdOf Ty t <;> rw [htd] at ha hd <;> simp [isAggTD] at ha
      · simp only [TdOk] at hd
        simp only [Value.okWide, hd] at hval
        obtain ⟨cs, h, _⟩ := hval; exact ⟨cs, h⟩
      · simp only [TdOk] at hd
        obtain ⟨fs, hd, _⟩ := hd
        simp only [Value.okWide, hd] at hval
        obtain ⟨cs, h, _⟩ := hval; exact ⟨cs, h⟩
    obtain ⟨cs, rfl⟩ := this
    rw [he.agg ha y]
    exact mkAgg (by simpa [Value.cells] using h2)
  | false =>
    rw [he.one ha y] at h2
    have hne : ∀ cs, v ≠ .agg cs := by
      rintro cs rfl
      have hl := h2.len
      simp only [Value.cells, List.length_singleton] at hl
      cases htd : tdOf Ty t <;> rw [htd] at ha hd <;> simp [isAggTD] at ha <;> simp only [TdOk] at hd
      case iface => obtain ⟨ms, hd⟩ := hd; simp [Value.okWide, hd, Cell.okWide, Cell.ok] at hval
      case func => obtain ⟨ps, rs, vv, hd⟩ := hd; simp [Value.okWide, hd, Cell.okWide, Cell.ok] at hval
      all_goals simp [Value.okWide, hd, Cell.okWide, Cell.ok] at hval
    have hc : v.cells.toList = [v] := by cases v <;> first | rfl | exact absurd rfl (hne _)
    rw [hc] at h2
    exact h2.at_ 0 v (e y) rfl rfl
end
mutual
def purA : AV → Bool
  | .sl .no _ es => purL es
  | .sl .full _ _ => false
  | .sl (.own _) _ _ => false
  | .agg cs => purL cs
  | .tup vs => purL vs
  | .fptr x _ => purL x
  | .iface _ v => purA v
  | .fn _ a b => purL a && purL b
  | .ref _ _ => false
  | .msl _ _ _ => false
  | .vec _ _ _ => false
  | .vc _ _ _ _ _ => false
  | .junk => true
  | .int _ _ => true
  | .bool _ => true
  | .str _ => true
  | .nilp => true
  | .nils => true
  | .nilm => true
  | .nilf => true
  | .nili => true
  | .spc _ => false
  | .mapr _ => false
  | .itc _ _ => false
  | .mpc _ _ => false
def purL : List AV → Bool
  | [] => true
  | a :: l => purA a && purL l
end
theorem purL_iff : ∀ {l : List AV}, purL l = true ↔ ∀ a ∈ l, purA a = true
  | [] => by simp [purL]
  | a :: l => by simp [purL, purL_iff (l := l)]
theorem pur_cells {a x : AV} (h : purA a = true) (hx : x ∈ a.cells) : purA x = true := by
  cases a with
  | agg cs =>
    have h' : purL cs = true := by simpa [purA] using h
    exact purL_iff.1 h' x hx
  | _ => simp [AV.cells] at hx; subst hx; exact h
theorem Rel.pur {G G2 : Ghost} (hz : ∀ b o u, G.fz b o = some u → G2.fz b o = some u) {v : Value} {a : AV} (h : Rel G v a) (hp : purA a = true) : Rel G2 v a := by
  induction h with
  | junk v => exact .junk v
  | int k n => exact .int k n
  | bool b => exact .bool b
  | str s => exact .str s
  | nilp => exact .nilp
  | nils => exact .nils
  | nilm => exact .nilm
  | nilf => exact .nilf
  | nili => exact .nili
  | spc id b h => cases hp
  | mapr id b h => cases hp
  | agg vs aas hl _ ih => exact .agg vs aas hl fun i v a h1 h2 => ih i v a h1 h2 (purL_iff.1 (by simpa [purA] using hp) a (List.mem_of_getElem? h2))
  | tup vs aas hl _ ih => exact .tup vs aas hl fun i v a h1 h2 => ih i v a h1 h2 (purL_iff.1 (by simpa [purA] using hp) a (List.mem_of_getElem? h2))
  | sl b o c t sz es val hc hm hzz hf _ ht ih =>
    cases t with
    | no =>
      have hp' : ∀ e ∈ es, purA e = true := purL_iff.1 (by simpa [purA] using hp)
      exact .sl b o c .no sz es val hc hm hzz (fun i e j a h1 h2 => hz _ _ _ (hf i e j a h1 h2)) (fun i e j a h1 h2 => ih i e j a h1 h2 (pur_cells (hp' e (List.mem_of_getElem? h1)) (List.mem_of_getElem? h2))) trivial
    | _ => cases hp
  | sl0 A c t sz hm ht =>
    cases t with
    | no => exact .sl0 A c .no sz hm (.inl rfl)
    | _ => cases hp
  | fptr b o off x val hf _ ih =>
    have hp' : ∀ e ∈ x, purA e = true := purL_iff.1 (by simpa [purA] using hp)
    exact .fptr b o off x val (fun j a h1 => hz _ _ _ (hf j a h1)) fun j a h1 => ih j a h1 (hp' a (List.mem_of_getElem? h1))
  | ref id off b h => cases hp
  | msl id off len c b hc h => cases hp
  | vec id sz len c b h0 hc hm h hs => cases hp
  | vec0 A id sz => cases hp
  | vc id sz off len c b hc hm h hs => cases hp
  | iface t v a _ ih => exact .iface t v a (ih (by simpa [purA] using hp))
  | fn f fs cs fa ca hl hk _ _ ih1 ih2 =>
    simp only [purA, Bool.and_eq_true] at hp
    exact .fn f fs cs fa ca hl hk (fun i v a h1 h2 => ih1 i v a h1 h2 (purL_iff.1 hp.1 a (List.mem_of_getElem? h2))) (fun i v a h1 h2 => ih2 i v a h1 h2 (purL_iff.1 hp.2 a (List.mem_of_getElem? h2)))
inductive BArg (σ : St) : AV → AV → Prop where
  | wk {a b : AV} (h : Wk a b) (hp : purA b = true) : BArg σ a b
  | vec {id sz n : Nat} {es : List AV} (hc : σ.objs[id]? = some (flat es)) (hsp : spcl (flat es) = false) (hn : n = es.length) (hz : ∀ e ∈ es, e.cells.length = sz) (hs : sz ≠ 0) (hp : purL es = true) : BArg σ (.vec id sz n) (.sl .no sz es)
  | vc {id sz off n cap : Nat} {cells es : List AV} (hc : σ.objs[id]? = some cells) (hsp : spcl cells = false) (hle : off + n * sz ≤ cells.length) (hcs : (cells.drop off).take (n * sz) = flat es) (hn : n = es.length) (hz : ∀ e ∈ es, e.cells.length = sz) (hs : sz ≠ 0) (hp : purL es = true) : BArg σ (.vc id sz off n cap) (.sl .no sz es)
inductive BArgs (σ : St) : List AV → List AV → Prop where
  | nil : BArgs σ [] []
  | cons {a b : AV} {aas bs : List AV} (h : BArg σ a b) (t : BArgs σ aas bs) : BArgs σ (a :: aas) (b :: bs)
theorem BArg.rel {σ : St} {w0 : World} {G : Ghost} {w : World} (hI : Inv w0 G w σ) {a b : AV} (h : BArg σ a b) {v : Value} (hr : Rel G v a) : Rel (argG w) v b := by
  have hz : ∀ b o u, G.fz b o = some u → (argG w).fz b o = some u := fun b o u hf => argG_fz (hI.fz b o u hf).1 (hI.fz b o u hf).2
  cases h with
  | wk h hp => exact (h G v hr).pur hz hp
  | @vec id sz n es hc hsp hn hzz hs hp =>
    have hfl := flat_length hzz
    cases hr with
    | vec0 A _ _ =>
      have hnil : es = [] := List.eq_nil_of_length_eq_zero hn.symm
      subst hnil
      exact .sl0 A 0 .no sz (Nat.zero_le _) (.inl rfl)
    | vec _ _ _ c b h0 hc' hm hl hbs =>
      have hne : flat es ≠ [] := fun he => by
        have h2 : (flat es).length = 0 := by rw [he]; rfl
        rw [hfl] at h2
        rcases Nat.mul_eq_zero.1 h2 with h | h
        · omega
        · exact hs h
      obtain ⟨b', T, vs, k1, k2, k3, k4, k5, k6⟩ := hI.loc _ _ hc hne hsp
      rw [hl] at k1
      injection k1 with k1
      subst k1
      have hrel : RelL (argG w) (vs.toList.take (flat es).length) (flat es) := ⟨k4.rel.len, fun i u a h1 h2 => (k4.rel.at_ i u a h1 h2).pur hz (by
        obtain ⟨e, he, ha⟩ := List.mem_flatMap.1 (show a ∈ es.flatMap AV.cells from by have := List.mem_of_getElem? h2; simpa [flat] using this)
        exact pur_cells (purL_iff.1 hp e he) ha)⟩
      rw [hn]
      refine Rel.mkSl (b := b) (o := 0) (t := .no) (by omega) hm hzz hrel (fun j u hu => ?_) trivial
      rw [Nat.zero_add]
      rw [List.getElem?_take] at hu
      split at hu
      · refine argG_fz ?_ (k5 u (List.mem_iff_getElem?.2 ⟨j, hu⟩))
        rw [cell_of_row _ _ _ vs T (0, 0) k3]
        simpa using hu
      · cases hu
  | @vc id sz off n cap cells es hc hsp hle hcs hn hzz hs hp =>
    have hfl := flat_length hzz
    cases hr with
    | vc _ _ _ _ _ b hc' hm hl hbs =>
      by_cases hne : cells = []
      · subst hne
        have h0 : n * sz = 0 := by rw [List.length_nil] at hle; omega
        have hn0 : n = 0 := by
          rcases Nat.mul_eq_zero.1 h0 with h | h
          · exact h
          · exact absurd h hs
        subst hn0
        have hnil : es = [] := List.eq_nil_of_length_eq_zero hn.symm
        subst hnil
        exact .sl0 _ cap .no sz hm (.inl rfl)
      · obtain ⟨b', T, vs, k1, k2, k3, k4, k5, k6⟩ := hI.loc _ _ hc hne hsp
        rw [hl] at k1
        injection k1 with k1
        subst k1
        have hvs : cells.length ≤ vs.size := k4.le
        have hcl : (flat es).length = n * sz := by rw [hfl, ← hn]
        have hrel : RelL (argG w) ((vs.toList.drop off).take (n * sz)) (flat es) := ⟨by rw [hcl, List.length_take, List.length_drop, Array.length_toList]; omega, fun i u a h1 h2 => by
          have hi : i < n * sz := by rw [← hcl]; exact (List.getElem?_eq_some_iff.1 h2).1
          rw [List.getElem?_take, if_pos hi, List.getElem?_drop] at h1
          have h3 := h2
          rw [← hcs, List.getElem?_take, if_pos hi, List.getElem?_drop] at h3
          refine (k4.rel.at_ (off + i) u a (by rw [List.getElem?_take, if_pos (by omega)]; exact h1) h3).pur hz ?_
          obtain ⟨e, he, ha⟩ := List.mem_flatMap.1 (show a ∈ es.flatMap AV.cells from by have := List.mem_of_getElem? h2; simpa [flat] using this)
          exact pur_cells (purL_iff.1 hp e he) ha⟩
        rw [hn] at hrel hc' ⊢
        refine Rel.mkSl (b := b) (o := off) (t := .no) hc' hm hzz hrel (fun j u hu => ?_) trivial
        rw [List.getElem?_take] at hu
        split at hu
        · rw [List.getElem?_drop] at hu
          refine argG_fz ?_ (k5 u (List.mem_iff_getElem?.2 ⟨off + j, hu⟩))
          rw [cell_of_row _ _ _ vs T (0, 0) k3]
          simpa using hu
        · cases hu
theorem BArgs.rel {σ : St} {w0 : World} {G : Ghost} {w : World} (hI : Inv w0 G w σ) : ∀ {aas bs : List AV} (_ : BArgs σ aas bs) {vs : List Value}, RelL G vs aas → RelL (argG w) vs bs
  | _, _, .nil, vs, h => ⟨h.len, fun i v a _ h2 => by simp at h2⟩
  | _, _, .cons (a := a) h t, vs, hr => by
    cases vs with
    | nil => have := hr.len; simp at this
    | cons v vs =>
      exact RelL.cons (h.rel hI (hr.at_ 0 v a rfl rfl)) (t.rel hI ⟨by simpa using hr.len, fun i u b e1 e2 => hr.at_ (i + 1) u b (by simpa using e1) (by simpa using e2)⟩)
def sclA : AV → Bool
  | .int _ _ => true
  | .bool _ => true
  | .str _ => true
  | .tup [] => true
  | .tup [.int _ _, .bool _] => true
  | .tup [.int _ _, .int _ _] => true
  | _ => false
theorem Rel.scl {G G2 : Ghost} {v : Value} {a : AV} (h : Rel G v a) (hs : sclA a = true) : Rel G2 v a := by
  unfold sclA at hs
  split at hs
  · cases h; exact .int _ _
  · cases h; exact .bool _
  · cases h; exact .str _
  · cases h with | tup vs _ hl _ => exact .tup vs [] hl (fun i v a _ h => by simp at h)
  · cases h with | tup vs _ hl h =>
    refine .tup vs _ hl fun i v a h1 h2 => ?_
    have := h i v a h1 h2
    match i, h2 with
    | 0, h2 => simp at h2; subst h2; cases this; exact .int _ _
    | 1, h2 => simp at h2; subst h2; cases this; exact .bool _
    | i + 2, h2 => simp at h2
  · cases h with | tup vs _ hl h =>
    refine .tup vs _ hl fun i v a h1 h2 => ?_
    have := h i v a h1 h2
    match i, h2 with
    | 0, h2 => simp at h2; subst h2; cases this; exact .int _ _
    | 1, h2 => simp at h2; subst h2; cases this; exact .int _ _
    | i + 2, h2 => simp at h2
  · cases hs
section
variable {P : Program} {Ty : TypeId → Option TI} {σ : St} {fr : Nat → AV}
theorem Inv.wko {w0 : World} {G : Ghost} {w : World} {σ : St} (h : Inv w0 G w σ) {id : Nat} {c c' : List AV} (hc : σ.objs[id]? = some c) (hsp : spcl c = false) (hw : WkL c c') : Inv w0 G w ⟨σ.objs.set id c', σ.opn, σ.gl⟩ := by
  have hlen : ∀ {a b : List AV}, WkL a b → a.length = b.length := by
    intro a b h
    induction h with
    | nil => rfl
    | cons _ _ ih => simp [ih]
  have hl := hlen hw
  have hlt := (List.getElem?_eq_some_iff.1 hc).1
  have key : ∀ (i : Nat) (d : List AV), (σ.objs.set id c')[i]? = some d → d ≠ [] → ∃ d', σ.objs[i]? = some d' ∧ d' ≠ [] ∧ (spcl d = false → spcl d' = false) ∧ WkL d' d := by
    intro i d hd hn
    rw [List.getElem?_set] at hd
    split at hd
    · rename_i he; subst he
      have hd' : c' = d := by
        first
          | exact Option.some.inj hd
          | (rw [if_pos hlt] at hd; exact Option.some.inj hd)
      subst hd'
      exact ⟨c, hc, fun h => by rw [h] at hl; exact hn (List.eq_nil_of_length_eq_zero hl.symm), fun _ => hsp, hw⟩
    · exact ⟨d, hd, hn, fun h => h, .refl d⟩
  refine ⟨h.below, h.fz, fun i d hd hn hs => ?_, fun i b o d hl' hd hn => ?_, h.loclt, fun i b hl' => by simpa using h.locdom i b hl', fun i j b d e hi hj hd he hn hn' => ?_, fun t b top en ho ht => ?_, h.tokdom, h.tokinj, h.nt, h.lit, h.gl, h.sp_to (.refl G) (fun _ _ _ h => h) (fun i a h1 h2 => by
      simp only at h1
      rw [List.getElem?_set] at h1
      split at h1
      · have e : c' = [a] := by
          first
            | exact Option.some.inj h1
            | (rw [if_pos (by omega)] at h1; exact Option.some.inj h1)
        obtain ⟨b, T, vs, e1, e2, e3, e4, e5, e6⟩ := h.loc id c hc (fun h0 => by rw [h0] at hl; rw [e] at hl; cases hl) hsp
        have hx := rell_nsp (hw.rel e4.rel)
        rw [e] at hx
        simp only [spcl] at hx
        rw [hx] at h2; cases h2
      · exact h1)⟩
  · obtain ⟨d', a1, a2, aq, a3⟩ := key i d hd hn
    obtain ⟨b, T, vs, e1, e2, e3, e4, e5, e6⟩ := h.loc i d' a1 a2 (aq hs)
    have hdl := hlen a3
    exact ⟨b, T, vs, e1, e2, e3, ⟨by rw [← hdl]; exact e4.le, by rw [← hdl]; exact a3.rel e4.rel⟩, e5, e6⟩
  · obtain ⟨d', a1, a2, _⟩ := key i d hd hn
    exact h.locfz i b o d' hl' a1 a2
  · obtain ⟨d', a1, a2, _⟩ := key i d hd hn
    obtain ⟨e', b1, b2, _⟩ := key j e he hn'
    exact h.locinj i j b d' e' hi hj a1 b1 a2 b2
  · obtain ⟨e1, e2, e3, e4⟩ := h.tok t b top en ho ht
    refine ⟨e1, e2, e3, fun i hi => ?_⟩
    have h0 := e4 i hi
    rw [List.getElem?_set]
    split
    · rename_i he; subst he
      rw [hc] at h0; cases h0
      have : c' = [] := List.eq_nil_of_length_eq_zero hl.symm
      subst this
      first | rfl | rw [if_pos hlt]
    · exact h0
theorem AWP.wko {n : Nat} {c : Code} {Q : AExit → (Nat → AV) → St → Prop} {l : List (Nat × AV)} {σ0 : St} {O : List (Nat × List AV)} {A : List Nat} (hH : Holds σ0 O A σ) (k : Nat) {id : Nat} {c0 c1 : List AV} (hk : O[k]? = some (id, c0)) (hw : WkL c0 c1) (h : ∀ τ, Holds σ0 (O.set k (id, c1)) A τ → AWP P n c Q (Va.fm l) τ) (hsp : spcl c0 = false := by first | rfl | exact spcl_cL (by assumption) _) : AWP P n c Q (Va.fm l) σ := fun w0 G a w hS =>
  h _ (hH.put k hk c1) w0 G a w ⟨hS.inv.wko (hH.at_ k hk) hsp hw, hS.frm, hS.size, hS.defers⟩
end
end Go.Va
namespace Go.Va
open Go Go.RowKit
section
variable {P : Program} {Ty : TypeId → Option TI} {σ σ' : St} {fr : Nat → AV}
theorem OpS.of_run {o : Oper} {a : AV} (h : ∀ w0 G (ρ : Operand → Value) w, Inv w0 G w σ → (∀ x ∈ o.op.operands, Rel G (ρ x) (aeval fr x)) → ∃ v w' G', (execOp ρ o).run P w = .ok (.value v) w' ∧ G.Le G' ∧ Inv w0 G' w' σ' ∧ Rel G' v a) : OpS P o fr σ (fun a' τ => a' = a ∧ τ = σ') := by
  intro w0 G act w Q K' hI hr hK
  obtain ⟨v, w', G', h1, h2, h3, h4⟩ := h w0 G act.eval w hI hr
  unfold Oper.wp
  rw [h1]
  exact hK v a σ' w' G' ⟨rfl, rfl⟩ h2 h3 h4
def eqCells (P : Program) : List Field → List AV → List AV → Option Bool
  | [], _, _ => some true
  | f :: fs, cs, ds => if f.name = "_" then none else match cs[f.offset]?, ds[f.offset]?, P.underlying f.type with
    | some (.int k a), some (.int k' b), some (.int _) => if k = k' then (if a == b then eqCells P fs cs ds else some false) else none
    | some (.str a), some (.str b), some .string => if decide (a = b) then eqCells P fs cs ds else some false
    | some (.bool a), some (.bool b), some .bool => if a == b then eqCells P fs cs ds else some false
    | _, _, _ => none
theorem eqCells_run {G : Ghost} {w : World} : ∀ {fs : List Field} {cs ds : List AV} {b : Bool} {xs ys : Array Value}, RelL G xs.toList cs → RelL G ys.toList ds → eqCells P fs cs ds = some b → ∀ d : Nat, (Op.eqFields (d + 1) xs ys fs).run P w = .ok b w
  | [], cs, ds, b, xs, ys, _, _, h, d => by
    simp only [eqCells, Option.some.injEq] at h; subst h; simp [Op.eqFields]
  | f :: fs, cs, ds, b, xs, ys, hx, hy, h, d => by
    unfold eqCells at h
    split at h
    case isTrue => cases h
    rename_i hn
    have key : ∀ {a c : AV} {r : Bool}, cs[f.offset]? = some a → ds[f.offset]? = some c → ∃ u v, xs[f.offset]? = some u ∧ ys[f.offset]? = some v ∧ Rel G u a ∧ Rel G v c := by
      intro a c r h1 h2
      obtain ⟨u, hu, hru⟩ := hx.get h1
      obtain ⟨v, hv, hrv⟩ := hy.get h2
      exact ⟨u, v, by simpa using hu, by simpa using hv, hru, hrv⟩
    have pt : ∀ {ws : Array Value} {u : Value}, ws[f.offset]? = some u → (∀ fs, P.underlying f.type ≠ some (.struct fs)) → (∀ n e, P.underlying f.type ≠ some (.array n e)) → ∀ {dd : TypeDesc}, P.underlying f.type = some dd → (part f.type ws f.offset).run P w = .ok u w := by
      intro ws u hu h1 h2 dd hd
      have : (isAgg f.type).run P w = .ok false w := by
        simp only [isAgg, Sem.run_bind, run_underlying hd, Result.andThen_ok]
        cases dd <;> simp_all
      simp [part, this, hu]
    have step : ∀ {u v : Value} {r : Bool} {dd : TypeDesc}, xs[f.offset]? = some u → ys[f.offset]? = some v → P.underlying f.type = some dd → (∀ fs, dd ≠ .struct fs) → (∀ n e, dd ≠ .array n e) → (Op.equalIn (d + 1) f.type u v).run P w = .ok r w → (if r = true then eqCells P fs cs ds else some false) = some b → (Op.eqFields (d + 1) xs ys (f :: fs)).run P w = .ok b w := by
      intro u v r dd hu hv hd n1 n2 hr hb
      have p1 := pt hu (by rw [hd]; simpa using n1) (by rw [hd]; simpa using n2) hd
      have p2 := pt hv (by rw [hd]; simpa using n1) (by rw [hd]; simpa using n2) hd
      simp only [Op.eqFields, hn, ne_eq, not_false_eq_true, if_true, Sem.run_bind, p1, p2, Result.andThen_ok, hr]
      cases r with
      | true => simp only [if_true] at hb; simpa using eqCells_run hx hy hb d
      | false => simp at hb; subst hb; simp
    split at h
    · rename_i k a k' c k'' e1 e2 hd
      split at h
      case isFalse => cases h
      rename_i hk
      subst hk
      obtain ⟨u, v, hu, hv, r1, r2⟩ := key (r := true) e1 e2
      cases r1; cases r2
      exact step hu hv hd (by simp) (by simp) (run_equalIn_int w d f.type _ _ _ _ hd) h
    · rename_i a c e1 e2 hd
      obtain ⟨u, v, hu, hv, r1, r2⟩ := key (r := true) e1 e2
      cases r1; cases r2
      exact step hu hv hd (by simp) (by simp) (by rw [run_equalIn_string w d f.type _ _ hd, beq_str]) h
    · rename_i a c e1 e2 hd
      obtain ⟨u, v, hu, hv, r1, r2⟩ := key (r := true) e1 e2
      cases r1; cases r2
      exact step hu hv hd (by simp) (by simp) (run_equalIn_bool' w d f.type _ _ hd) h
    · cases h
variable {d : Option Tmp} {ty : TypeId} {pos : String} {af : Array Edge} {g : Option (Nat × Bool)} {ox oy oi : Operand} {T T' E U : TypeId}
theorem run_eq_agg {t : TypeId} {cs ds : List AV} {b : Bool} {G : Ghost} {w : World} {u v : Value} (hu : P.underlying t = some (.struct (P.fieldsOf t))) (hp : P.stoodInHeld t = false) (h : eqCells P (P.fieldsOf t).toList cs ds = some b) (h1 : Rel G u (.agg cs)) (h2 : Rel G v (.agg ds)) : (Op.equal t u v).run P w = .ok b w ∧ ∃ xs ys, u = .agg xs ∧ v = .agg ys := by
  cases h1 with | agg xs _ hl hr =>
  cases h2 with | agg ys _ hl' hr' =>
  refine ⟨?_, xs, ys, rfl, rfl⟩
  have hx : RelL G xs.toList cs := ⟨by simpa using hl, fun i v a e1 e2 => hr i v a (by simpa using e1) e2⟩
  have hy : RelL G ys.toList ds := ⟨by simpa using hl', fun i v a e1 e2 => hr' i v a (by simpa using e1) e2⟩
  show (Op.equalIn 10000 t (.agg xs) (.agg ys)).run P w = _
  rw [run_equalIn_struct w 9999 t xs ys hu hp]
  exact eqCells_run hx hy h 9998
end
end Go.Va
namespace Go.Va
open Go Go.RowKit
set_option linter.unusedVariables false
set_option linter.unusedSimpArgs false
section
variable {P : Program} {Ty : TypeId → Option TI} {σ σ0 : St} {O : List (Nat × List AV)} {A : List Nat} {fr : Nat → AV} {d : Option Tmp} {ty : TypeId} {pos : String} {af : Array Edge} {g : Option (Nat × Bool)} {ox oy oi : Operand} {T T' E U : TypeId} {α : Type} {e : α → AV} {sz id off cap : Nat}
structure PartV (e : α → AV) (sz : Nat) (c : List AV) (off cap : Nat) (l : List α) : Prop where
  le : off + l.length * sz ≤ c.length
  at_ : (c.drop off).take (l.length * sz) = cL e l
  room : l.length ≤ cap
  nsp : spcl c = false
def vco (sz off cap l : Nat) : Nat := if cap = l then off else off + l * sz
theorem PartV.all (he : Enc Ty E sz e) {l : List α} (h : l.length ≤ cap) : PartV e sz (cL e l) 0 cap l :=
  have hl := cL_length he.len l
  ⟨by rw [hl]; omega, by rw [List.drop_zero, List.take_of_length_le (by rw [hl]; exact Nat.le_refl _)], h, spcl_cL he l⟩
theorem PartV.cutN (he : Enc Ty E sz e) {c : List AV} {l : List α} (hp : PartV e sz c off cap l) {a b : Nat} (h1 : a ≤ b) (h2 : b ≤ l.length) : PartV e sz c (vco sz off cap a) (cap - a) ((l.take b).drop a) := by
  have hlen : ((l.take b).drop a).length = b - a := by rw [List.length_drop, List.length_take]; omega
  have hroom := hp.room
  have hle := hp.le
  have hab : (b - a) * sz = b * sz - a * sz := Nat.sub_mul _ _ _
  have hb : b * sz ≤ l.length * sz := Nat.mul_le_mul_right _ h2
  have ha : a * sz ≤ b * sz := Nat.mul_le_mul_right _ h1
  unfold vco
  by_cases hc : cap = a
  · rw [if_pos hc]
    have h0 : b - a = 0 := by omega
    refine ⟨by rw [hlen, h0]; omega, ?_, by omega, hp.nsp⟩
    rw [hlen, h0, Nat.zero_mul, List.take_zero, List.eq_nil_of_length_eq_zero (hlen.trans h0)]
    rfl
  · rw [if_neg hc]
    refine ⟨by rw [hlen, hab]; omega, ?_, by omega, hp.nsp⟩
    rw [hlen, ← cL_drop he.len, ← cL_take he.len, ← hp.at_, List.take_take, Nat.min_eq_left hb, List.drop_take, List.drop_drop, hab]
theorem PartV.cut (he : Enc Ty E sz e) {c : List AV} {l z : List α} (hp : PartV e sz c off cap l) {lo hi : Int} (h : cutO l lo hi = some z) : PartV e sz c (vco sz off cap lo.toNat) (cap - lo.toNat) z := by
  unfold cutO at h
  split at h <;> cases h
  exact hp.cutN he (by omega) (by omega)
end
end Go.Va
namespace Go.Va
open Go Go.RowKit
section
variable {P : Program} {Ty : TypeId → Option TI} {σ σ0 : St} {O : List (Nat × List AV)} {A : List Nat} {fr : Nat → AV} {d : Option Tmp} {ty : TypeId} {pos : String} {af : Array Edge} {g : Option (Nat × Bool)} {ox oy : Operand} {T E U S : TypeId}
end
end Go.Va
namespace Go.Va
open Go Go.RowKit
section
variable {P : Program} {Ty : TypeId → Option TI}
variable {σ σ0 : St} {O : List (Nat × List AV)} {A : List Nat} {fr : Nat → AV} {d : Option Tmp} {ty : TypeId} {pos : String} {af : Array Edge} {g : Option (Nat × Bool)} {ox oy : Operand} {T E U S : TypeId} {α : Type} {e : α → AV} {sz id off cap : Nat}
end
end Go.Va
namespace Go.Va
open Go Go.RowKit
def cut3 {α : Type} (l : List α) (k h m : Int) : Option (List α) := if 0 ≤ k ∧ k ≤ h ∧ h ≤ m ∧ m ≤ l.length then some ((l.take h.toNat).drop k.toNat) else none
section
variable {P : Program} {Ty : TypeId → Option TI} {σ : St} {fr : Nat → AV} {d : Option Tmp} {ty : TypeId} {pos : String} {af : Array Edge} {g : Option (Nat × Bool)} {ox oy : Operand} {T E : TypeId} {α : Type} {e : α → AV} {sz : Nat} {k : Tok}
end
end Go.Va
namespace Go.Va
open Go Go.RowKit
inductive NkL (t : Nat) : List AV → List AV → Prop where
  | nil : NkL t [] []
  | same {a : AV} {l m : List AV} (h : NkL t l m) : NkL t (a :: l) (a :: m)
  | tok {sz : Nat} {l m : List AV} (h : NkL t l m) : NkL t (.nils :: l) (.sl (.own t) sz [] :: m)
theorem NkL.len {t : Nat} {l m : List AV} (h : NkL t l m) : l.length = m.length := by
  induction h with
  | nil => rfl
  | same _ ih => simp [ih]
  | tok _ ih => simp [ih]
theorem NkL.rel {t : Nat} {l m : List AV} (h : NkL t l m) {G : Ghost} (ht : t < G.nt) : ∀ {vs : List Value}, RelL G vs l → RelL G vs m := by
  induction h with
  | nil => exact fun h => h
  | same _ ih =>
    intro vs hr
    cases vs with
    | nil => have := hr.len; simp at this
    | cons v vs => exact RelL.cons (hr.at_ 0 v _ rfl rfl) (ih ⟨by simpa using hr.len, fun i u a e1 e2 => hr.at_ (i + 1) u a (by simpa using e1) (by simpa using e2)⟩)
  | tok _ ih =>
    intro vs hr
    cases vs with
    | nil => have := hr.len; simp at this
    | cons v vs =>
      have h1 := hr.at_ 0 v _ rfl rfl
      cases h1
      exact RelL.cons (.sl0 none 0 _ _ (Nat.zero_le _) (.inr ⟨rfl, ht⟩)) (ih ⟨by simpa using hr.len, fun i u a e1 e2 => hr.at_ (i + 1) u a (by simpa using e1) (by simpa using e2)⟩)
end Go.Va
namespace Go.Va
open Go Go.RowKit
set_option linter.unusedVariables false
set_option linter.unusedSimpArgs false
section
variable {P : Program} {Ty : TypeId → Option TI} {σ : St} {fr : Nat → AV} {d : Option Tmp} {ty : TypeId} {pos : String} {af : Array Edge} {g : Option (Nat × Bool)} {ox oy : Operand} {T T' E : TypeId} {k : Tok} {sz : Nat} {es : List AV}
end

theorem Inv.alloc_sp {w0 : World} {G : Ghost} {w : World} {σ : St} (h : Inv w0 G w σ) {o : Obj} {a : AV} (ha : a.isSp = true) (hs : SpO G o a) :
    G.Le (G.addLoc σ.objs.length w.heap.size 0) ∧ Inv w0 (G.addLoc σ.objs.length w.heap.size 0) (w.alloc o) ⟨σ.objs ++ [[a]], σ.opn, σ.gl⟩ := by
  have hnone : ∀ i b, G.loc i = some b → i ≠ σ.objs.length := fun i b hi he => by have := h.locdom i b hi; omega
  have hle : G.Le (G.addLoc σ.objs.length w.heap.size 0) := ⟨fun _ _ _ h => h, fun i b hi => by simp [Ghost.addLoc, hnone i b hi, hi], fun _ _ h => h, Nat.le_refl _, fun _ h => h, fun i b hi => by simp [Ghost.addLoc, hnone i b hi]⟩
  have hsz := h.below.size
  have hat : ∀ (id : Nat) (c : List AV), (σ.objs ++ [[a]])[id]? = some c → (id < σ.objs.length ∧ σ.objs[id]? = some c) ∨ (id = σ.objs.length ∧ c = [a]) := by
    intro id c hc
    by_cases hid : id < σ.objs.length
    · rw [List.getElem?_append_left hid] at hc; exact .inl ⟨hid, hc⟩
    · rw [List.getElem?_append_right (by omega)] at hc
      cases hz : id - σ.objs.length with
      | zero => rw [hz] at hc; simp at hc; exact .inr ⟨by omega, hc.symm⟩
      | succ m => rw [hz] at hc; simp at hc
  refine ⟨hle, ⟨h.below.alloc hsz _, fun b o v hf => ?_, fun id c hc hne hn => ?_, fun id b o c hl hc hne => ?_, fun id b hl => ?_, fun id b hl => ?_, fun i j b c d hi hj hc hd hn hn' => ?_, fun t b top en ho ht => ?_, fun t x ht => h.tokdom t x ht, fun t t' x x' a1 a2 a3 a4 => h.tokinj t t' x x' a1 a2 a3 a4, h.nt, fun b hb => ?_, h.gl, fun id x hc hx => ?_⟩⟩
  · exact ⟨(alloc_cell_lt _ (h.fzlt hf)).trans (h.fz b o v hf).1, (h.fz b o v hf).2⟩
  · rcases hat id c hc with ⟨hid, hc⟩ | ⟨rfl, rfl⟩
    · obtain ⟨b, T', vs', e1, e2, e3, e4, e5, e6⟩ := h.loc id c hc hne hn
      exact ⟨b, T', vs', hle.loc _ _ e1, e2, (alloc_heap_lt _ (h.loclt _ _ e1)).trans e3, e4.mono hle, e5, by rw [hle.bsz _ _ e1]; exact e6⟩
    · simp only [spcl] at hn; rw [ha] at hn; cases hn
  · simp only [Ghost.addLoc] at hl
    split at hl
    · injection hl with hl; subst hl
      cases hz : (G.addLoc σ.objs.length w.heap.size 0).fz w.heap.size o with
      | none => rfl
      | some v => exact absurd (h.fzlt (b := w.heap.size) (o := o) hz) (by omega)
    · rw [List.getElem?_append_left (h.locdom id b hl)] at hc
      exact h.locfz id b o c hl hc hne
  · simp only [Ghost.addLoc] at hl
    split at hl
    · injection hl with hl; simp; omega
    · have := h.loclt id b hl; simp; omega
  · simp only [Ghost.addLoc] at hl
    split at hl
    · simp; omega
    · have := h.locdom id b hl; simp; omega
  · simp only [Ghost.addLoc] at hi hj
    split at hi <;> split at hj
    · omega
    · injection hi with hi; subst hi; exact absurd (h.loclt _ _ hj) (by omega)
    · injection hj with hj; subst hj; exact absurd (h.loclt _ _ hi) (by omega)
    · rw [List.getElem?_append_left (h.locdom i b hi)] at hc
      rw [List.getElem?_append_left (h.locdom j b hj)] at hd
      exact h.locinj i j b c d hi hj hc hd hn hn'
  · obtain ⟨e1, ⟨cs, T', e2, e3⟩, e4, e5⟩ := h.tok t b top en ho ht
    have hb : b < w.heap.size := (Array.getElem?_eq_some_iff.1 e2).1
    refine ⟨e1, ⟨cs, T', (alloc_heap_lt _ hb).trans e2, e3⟩, e4, fun id hl => ?_⟩
    simp only [Ghost.addLoc] at hl
    split at hl
    · injection hl with hl; omega
    · rw [List.getElem?_append_left (h.locdom id b hl)]
      exact e5 id hl
  · obtain ⟨k1, k2, k3, k4⟩ := h.lit b hb
    refine ⟨k1, by simp; omega, fun id hl => ?_, k4⟩
    simp only [Ghost.addLoc] at hl
    split at hl
    · injection hl with hl; omega
    · exact k3 id hl
  · rcases hat id [x] hc with ⟨hid, hc⟩ | ⟨rfl, e⟩
    · obtain ⟨b, o, e1, e2, e3, e4⟩ := h.sp id x hc hx
      exact ⟨b, o, hle.loc _ _ e1, e2, heap_alloc_keep _ e3, e4.mono hle⟩
    · obtain rfl := (List.cons.inj e).1
      exact ⟨w.heap.size, o, by simp [Ghost.addLoc], hsz, heap_alloc_new w _, hs.mono hle⟩
theorem Inv.set_sp {w0 : World} {G : Ghost} {w : World} {σ : St} (h : Inv w0 G w σ) {id b : Nat} {a a' : AV} {o' : Obj} (hc : σ.objs[id]? = some [a]) (ha : a.isSp = true) (hl : G.loc id = some b) (ha' : a'.isSp = true) (hs : SpO G o' a') :
    Inv w0 G { w with heap := w.heap.setIfInBounds b o' } ⟨σ.objs.set id [a'], σ.opn, σ.gl⟩ := by
  obtain ⟨b1, o, k1, k2, k3, k4⟩ := h.sp id a hc ha
  rw [hl] at k1
  injection k1 with k1
  subst k1
  have hlt := (Array.getElem?_eq_some_iff.1 k3).1
  have hidlt := h.locdom id b hl
  have hoth : ∀ k, k ≠ b → (w.heap.setIfInBounds b o')[k]? = w.heap[k]? := fun k hk => Array.getElem?_setIfInBounds_ne (Ne.symm hk)
  have hne : ∀ {k : Nat} {cs T f}, w.heap[k]? = some (.cells cs T f) → k ≠ b := fun {k cs T f} e he => by subst he; rw [k3] at e; injection e with e; exact k4.nc _ _ _ e
  have hbel : Below w0.heap.size w { w with heap := w.heap.setIfInBounds b o' } := ⟨rfl, rfl, rfl, by simp, fun k hk => hoth k (by omega)⟩
  have hcell : ∀ k x v, w.cell? ⟨k, x, none⟩ = some v → World.cell? { w with heap := w.heap.setIfInBounds b o' } ⟨k, x, none⟩ = some v := fun k x v hv => by
    have hkb : k ≠ b := fun he => by
      subst he
      simp only [World.cell?, k3] at hv
      obtain ⟨c, e, lo, hi⟩ | _ := o
      · exact k4.nc _ _ _ rfl
      all_goals simp at hv
    simp only [World.cell?] at hv ⊢
    rw [hoth k hkb]
    exact hv
  have hat : ∀ (i : Nat) (c : List AV), (σ.objs.set id [a'])[i]? = some c → (i = id ∧ c = [a']) ∨ (i ≠ id ∧ σ.objs[i]? = some c) := by
    intro i c hc'
    by_cases he : id = i
    · subst he
      rw [List.getElem?_set_self hidlt] at hc'
      exact .inl ⟨rfl, (Option.some.inj hc').symm⟩
    · rw [List.getElem?_set_ne he] at hc'
      exact .inr ⟨Ne.symm he, hc'⟩
  have hsome : ∀ (i : Nat) (c : List AV), (σ.objs.set id [a'])[i]? = some c → c ≠ [] → ∃ c', σ.objs[i]? = some c' ∧ c' ≠ [] := by
    intro i c hc' hn
    rcases hat i c hc' with ⟨rfl, rfl⟩ | ⟨_, e⟩
    · exact ⟨[a], hc, by simp⟩
    · exact ⟨c, e, hn⟩
  refine ⟨h.below.trans hbel, fun x o v hf => ⟨hcell _ _ _ (h.fz x o v hf).1, (h.fz x o v hf).2⟩, fun i c hc' hn hsp => ?_, fun i x o c hl' hc' hn => ?_, fun i x hl' => by simpa using h.loclt i x hl', fun i x hl' => by simpa using h.locdom i x hl', fun i j x c d hi hj hc' hd hn hn' => ?_, fun t x top en ho ht => ?_, h.tokdom, h.tokinj, h.nt, fun x hx => ?_, h.gl, fun i x hc' hx => ?_⟩
  · rcases hat i c hc' with ⟨rfl, rfl⟩ | ⟨_, e⟩
    · simp only [spcl] at hsp; rw [ha'] at hsp; cases hsp
    · obtain ⟨b', T, vs, e1, e2, e3, e4, e5, e6⟩ := h.loc i c e hn hsp
      exact ⟨b', T, vs, e1, e2, (hoth b' (hne e3)).trans e3, e4, e5, e6⟩
  · obtain ⟨c', e1, e2⟩ := hsome i c hc' hn
    exact h.locfz i x o c' hl' e1 e2
  · obtain ⟨c', e1, e2⟩ := hsome i c hc' hn
    obtain ⟨d', f1, f2⟩ := hsome j d hd hn'
    exact h.locinj i j x c' d' hi hj e1 f1 e2 f2
  · obtain ⟨e1, ⟨cs, T, e2, e3⟩, e4, e5⟩ := h.tok t x top en ho ht
    refine ⟨e1, ⟨cs, T, (hoth x (hne e2)).trans e2, e3⟩, e4, fun i hi => ?_⟩
    have h0 := e5 i hi
    rw [List.getElem?_set]
    split
    · rename_i he; subst he; rw [hc] at h0; cases h0
    · exact h0
  · obtain ⟨e1, e2, e3, e4⟩ := h.lit x hx
    exact ⟨e1, by simpa using e2, e3, e4⟩
  · rcases hat i [x] hc' with ⟨rfl, e⟩ | ⟨hi, e⟩
    · obtain rfl := (List.cons.inj e).1
      exact ⟨b, o', hl, k2, by simp [hlt], hs⟩
    · obtain ⟨b', o2, e1, e2, e3, e4⟩ := h.sp i x e hx
      have hb' : b' ≠ b := fun he => hi (h.locinj i id b [x] [a] (he ▸ e1) hl e hc (by simp) (by simp))
      exact ⟨b', o2, e1, e2, (hoth b' hb').trans e3, e4⟩
section
variable {P : Program} {Ty : TypeId → Option TI} {σ σ0 : St} {O : List (Nat × List AV)} {A : List Nat} {fr : Nat → AV} {d : Option Tmp} {ty : TypeId} {pos : String} {af : Array Edge} {g : Option (Nat × Bool)} {ox oy : Operand} {T : TypeId}
theorem WkL.append : ∀ {a b c d : List AV}, WkL a b → WkL c d → WkL (a ++ c) (b ++ d)
  | _, _, _, _, .nil, h => h
  | _, _, _, _, .cons h t, k => .cons h (t.append k)
theorem h_allocw (hT : TyOk P Ty) (hH : Holds σ0 O A σ) {i : TI} (hi : Ty T = some i) (c : List AV) (hw : WkL i.zero.cells c) (hsp : spcl i.zero.cells = false := by rfl) : ∃ id τ, OpS P ⟨d, .alloc T, ty, pos, af, g⟩ fr σ (fun a' τ' => a' = (fun id => AV.ref id 0) id ∧ τ' = τ) ∧ (Holds σ0 ((id, c) :: O) A τ ∧ σ0.objs.length ≤ id) := by
  refine ⟨σ.objs.length, ⟨σ.objs ++ [c], σ.opn, σ.gl⟩, fun w0 G act w Q K' hI hr hK => o_alloc hT hi w0 G act w Q K' hI hr ?_, hH.add c, hH.olen⟩
  rintro v a σ' w' G' ⟨rfl, rfl⟩ hG hI' hv
  have h1 : (σ.objs ++ [i.zero.cells])[σ.objs.length]? = some i.zero.cells := by simp
  have h2 := hI'.wko h1 hsp hw
  have h3 : (σ.objs ++ [i.zero.cells]).set σ.objs.length c = σ.objs ++ [c] := by simp
  simp only [h3] at h2
  exact hK v _ _ w' G' ⟨rfl, rfl⟩ hG h2 hv
def cIt (x : List (BitVec 8) × Nat) : List AV := [.itc (mkB x.1) x.2]
def nxS (x : List (BitVec 8) × Nat) : Option (Option Int) := match x.1[x.2]? with
  | some b => if b.toNat < 128 then some (some (b.toNat : Int)) else none
  | none => some none
end

theorem Holds.cells {σ0 σ : St} {O : List (Nat × List AV)} {A : List Nat} (h : Holds σ0 O A σ) (k : Nat) {id : Nat} {c : List AV} (c' : List AV) (hk : O[k]? = some (id, c)) (he : c = c') : Holds σ0 (O.set k (id, c')) A σ := by
  subst he
  obtain ⟨hlt, hg⟩ := List.getElem?_eq_some_iff.1 hk
  rw [← hg, List.set_getElem_self]
  exact h
theorem Holds.brings {σ : St} (O : List (Nat × List AV)) (ho : ∀ p ∈ O, σ.objs[p.1]? = some p.2) (hd : (O.map (·.1)).Pairwise fun a b => a ≠ b) : Holds σ O [] σ :=
  ⟨fun _ _ h _ => h, fun _ h => h, Nat.le_refl _, Nat.le_refl _, ho, List.pairwise_map.1 hd, fun _ h => (by cases h), .nil, rfl⟩
theorem Holds.pw {σ0 σ : St} {O : List (Nat × List AV)} {A : List Nat} (h : Holds σ0 O A σ) {ids : List Nat} (ks : List Nat) (hk : ks.map (fun k => (O.map (·.1))[k]?) = ids.map some) (hs : ks.Pairwise fun a b => a ≠ b) : ids.Pairwise fun a b => a ≠ b := by
  rw [List.pairwise_iff_getElem] at hs ⊢
  intro i j hi hj hij
  have hl : ks.length = ids.length := by have := congrArg List.length hk; simpa using this
  have key : ∀ (x : Nat) (hx : x < ids.length), ∃ p, O[ks[x]'(by omega)]? = some p ∧ p.1 = ids[x] := fun x hx => by
    have e := congrArg (fun l => l[x]?) hk
    simp only [List.getElem?_map, List.getElem?_eq_getElem (show x < ks.length by omega), List.getElem?_eq_getElem hx, Option.map_some, Option.some.injEq] at e
    obtain ⟨p, h1, h2⟩ := Option.map_eq_some_iff.1 e
    exact ⟨p, h1, h2⟩
  obtain ⟨p, p1, p2⟩ := key i hi
  obtain ⟨q, q1, q2⟩ := key j hj
  rw [← p2, ← q2]
  exact dist_get h.dist p1 q1 (hs i j (by omega) (by omega) hij)
theorem pw_zip {O : List (Nat × List AV)} (h : (O.map (·.1)).Pairwise fun a b => a ≠ b) : O.Pairwise fun p q => p.1 ≠ q.1 := List.pairwise_map.1 h
theorem idl_get {σ : St} {i : Nat} {c : List AV} (h : σ.objs[i]? = some c) : idl σ.objs.length i = some i := by
  have := (List.getElem?_eq_some_iff.1 h).1
  simp [idl, this]
section
variable {P : Program} {σ : St}
theorem ACall.outB {g : FuncId} {args : List AV} {b : AV} (M : List (Nat × List AV)) (hc : ∀ p ∈ M, cutL (idl σ.objs.length) (idl σ.opn.length) p.2 = p.2) (h : ACall P g args σ (fun a σ' => Wk (cutAV (idl σ.objs.length) (idl σ.opn.length) a) b ∧ Holds σ M [] σ')) : ACall P g args σ (fun a σ' => a = b ∧ σ' = σ.puts M) :=
  h.cut fun a σ' ⟨ha, hH⟩ => ⟨σ.puts M, b, puts_len M _, rfl, rfl, hH.opn, fun id c hid => by
    rcases puts_get M σ.objs id c hid with h1 | ⟨h1, h2⟩
    · exact ⟨hH.obj _ h1, .inr (hc _ h1)⟩
    · exact ⟨hH.base id c h1 h2, .inl h1⟩, ha, rfl, rfl⟩
def zipB (f : Nat → Nat) : Nat → List (List AV) → List (Nat × List AV)
  | _, [] => []
  | i, x :: l => (f i, x) :: zipB f (i + 1) l
theorem zipB_get (f : Nat → Nat) : ∀ (l : List (List AV)) (i k : Nat), (zipB f i l)[k]? = (l[k]?).map fun x => (f (i + k), x)
  | [], i, k => by simp [zipB]
  | x :: l, i, 0 => by simp [zipB]
  | x :: l, i, k + 1 => by
    simp only [zipB, List.getElem?_cons_succ]
    rw [zipB_get f l (i + 1) k, show i + 1 + k = i + (k + 1) by omega]
theorem zipB_mem {f : Nat → Nat} {l : List (List AV)} {i : Nat} {p : Nat × List AV} (h : p ∈ zipB f i l) : ∃ k, k < l.length ∧ p.1 = f (i + k) ∧ l[k]? = some p.2 := by
  obtain ⟨k, hk⟩ := List.mem_iff_getElem?.1 h
  rw [zipB_get] at hk
  obtain ⟨x, h1, rfl⟩ := Option.map_eq_some_iff.1 hk
  exact ⟨k, (List.getElem?_eq_some_iff.1 h1).1, rfl, h1⟩
theorem Holds.addL {σ0 σ : St} {O : List (Nat × List AV)} {A : List Nat} (h : Holds σ0 O A σ) (L : List (List AV)) : Holds σ0 (zipB (fun i => σ.objs.length + i) 0 L ++ O) A ⟨σ.objs ++ L, σ.opn, σ.gl⟩ := by
  refine ⟨fun i d h1 h2 => ?_, h.opn, by have := h.olen; simp; omega, h.tlen, fun p hp => ?_, ?_, h.tok, h.tdist, h.gl⟩
  · have := h.base i d h1 (fun p hp => h2 p (List.mem_append_right _ hp))
    simp only
    rw [List.getElem?_append_left (List.getElem?_eq_some_iff.1 this).1]
    exact this
  · rcases List.mem_append.1 hp with hp | hp
    · obtain ⟨k, hk, e1, e2⟩ := zipB_mem hp
      simp only [e1, Nat.zero_add]
      rw [List.getElem?_append_right (by omega), Nat.add_sub_cancel_left]
      exact e2
    · have := h.obj p hp
      simp only
      rw [List.getElem?_append_left (List.getElem?_eq_some_iff.1 this).1]
      exact this
  · rw [List.pairwise_append]
    refine ⟨?_, h.dist, fun p hp q hq => ?_⟩
    · rw [List.pairwise_iff_getElem]
      intro i j hi hj hij
      have e1 := List.getElem?_eq_getElem hi
      have e2 := List.getElem?_eq_getElem hj
      rw [zipB_get] at e1 e2
      obtain ⟨x, _, e1⟩ := Option.map_eq_some_iff.1 e1
      obtain ⟨y, _, e2⟩ := Option.map_eq_some_iff.1 e2
      rw [← e1, ← e2]
      show σ.objs.length + (0 + i) ≠ σ.objs.length + (0 + j)
      omega
    · obtain ⟨k, hk, e1, e2⟩ := zipB_mem hp
      have := (List.getElem?_eq_some_iff.1 (h.obj q hq)).1
      rw [e1]
      omega
inductive WkLL : List (List AV) → List (List AV) → Prop where
  | nil : WkLL [] []
  | cons {a b : List AV} {l m : List (List AV)} (hs : spcl a = false) (h : WkL a b) (t : WkLL l m) : WkLL (a :: l) (b :: m)
  | same {a b : List AV} {l m : List (List AV)} (h : a = b) (t : WkLL l m) : WkLL (a :: l) (b :: m)
theorem Inv.wkoL {w0 : World} {G : Ghost} {w : World} {opn : List Bool} {gl : List (Addr × Value)} : ∀ {L L' : List (List AV)} (_ : WkLL L L') {base : List (List AV)}, Inv w0 G w ⟨base ++ L, opn, gl⟩ → Inv w0 G w ⟨base ++ L', opn, gl⟩
  | _, _, .nil, base, h => h
  | _, _, .cons (a := a) (b := b) (l := l) (m := m) hs hw t, base, h => by
    have h1 := h.wko (id := base.length) (c := a) (c' := b) (by simp) hs hw
    have h2 : (base ++ a :: l).set base.length b = (base ++ [b]) ++ l := by simp
    simp only [h2] at h1
    have h3 := Inv.wkoL t h1
    simpa using h3
  | _, _, .same (a := a) (l := l) (m := m) e t, base, h => by
    subst e
    have h3 := Inv.wkoL (base := base ++ [a]) t (by simpa using h)
    simpa using h3
theorem ACall.weaken {g : FuncId} {args : List AV} {K K' : AV → St → Prop} (h : ACall P g args σ K) (hk : ∀ a σ', K a σ' → ∃ σ1, (∀ w0 G w, Inv w0 G w σ' → Inv w0 G w σ1) ∧ K' a σ1) : ACall P g args σ K' :=
  ⟨h.1, fun w0 G w vs hI hr => (h.2 w0 G w vs hI hr).mono fun e w' ⟨v, a, σ', G', h1, h2, h3, h4, h5⟩ => by
    obtain ⟨σ1, k1, k2⟩ := hk a σ' h5
    exact ⟨v, a, σ1, G', h1, h2, k1 _ _ _ h3, h4, k2⟩⟩
def NewB {α : Type} (B : (Nat → Nat) → α → List (List AV)) (rest : List AV) (σ : St) : Option α → AV → St → Prop
  | none, a, τ => a = .tup (.nilp :: rest) ∧ τ = σ
  | some c, a, τ => a = .tup (.ref σ.objs.length 0 :: rest) ∧ τ = ⟨σ.objs ++ B (fun i => σ.objs.length + i) c, σ.opn, σ.gl⟩
def NewBE {α : Type} (B : (Nat → Nat) → α → List (List AV)) (rest : List AV) (σ : St) : Option α → AV → St → Prop
  | none, a, τ => a = .tup (.nilp :: rest) ∧ Holds σ [] [] τ
  | some c, a, τ => ∃ f : Nat → Nat, a = .tup (.ref (f 0) 0 :: rest) ∧ (∀ i, i < (B f c).length → σ.objs.length ≤ f i) ∧ Holds σ (zipB f 0 (B f c)) [] τ
theorem NewBE.some {α : Type} {B : (Nat → Nat) → α → List (List AV)} {rest : List AV} {σ τ : St} {c : α} (f : Nat → Nat) (h1 : ∀ i, i < (B f c).length → σ.objs.length ≤ f i) (h2 : Holds σ (zipB f 0 (B f c)) [] τ) : NewBE B rest σ (some c) (.tup (.ref (f 0) 0 :: rest)) τ := ⟨f, rfl, h1, h2⟩
theorem NewBE.none {α : Type} {B : (Nat → Nat) → α → List (List AV)} {rest : List AV} {σ τ : St} (h : Holds σ [] [] τ) : NewBE B rest σ none (.tup (.nilp :: rest)) τ := ⟨rfl, h⟩
variable {σ0 : St} {O : List (Nat × List AV)} {A' : List Nat} {fr : Nat → AV}
end
section
variable {P : Program} {Ty : TypeId → Option TI} {n : Nat} {σ σ0 : St} {O : List (Nat × List AV)} {A : List Nat} {E : TypeId} {α : Type} {e : α → AV} {sz : Nat}
end
section
variable {P : Program} {Ty : TypeId → Option TI} {σ σ0 : St} {O : List (Nat × List AV)} {A : List Nat} {fr : Nat → AV} {d : Option Tmp} {ty : TypeId} {pos : String} {af : Array Edge} {g : Option (Nat × Bool)} {ox oy : Operand} {T E : TypeId} {α : Type} {e : α → AV} {sz : Nat}
theorem WkL.flat {a b : AV} (h : WkL a.cells b.cells) : ∀ n, WkL (flat (List.replicate n a)) (flat (List.replicate n b))
  | 0 => .nil
  | n + 1 => by
    simp only [List.replicate_succ, flat_cons]
    exact h.append (WkL.flat h n)
end

def chkFirst (B : Array Nat) (I : List Nat) (m n : Nat) : Bool := (List.range n).all fun k => decide (k < m) || I.all fun i => befB B k i
def chkAt (B : Array Nat) (S : List Nat) (i : Nat) : Bool := S.all fun s => s == i || (if s < i then befB B i s else befB B s i)
inductive PhK where
  | p
  | r
  | a (c : List AV)
  | t (O : Nat → List (Nat × List AV))
abbrev Ph := PhK × (Nat → AV)
def Ph.val (p : Ph) (id : Nat) : AV := match p.1 with
  | .a _ => p.2 id
  | _ => p.2 0
section
variable (P : Program) (σ0 : St) (A : List Nat)
def PhStep (ops : Array Oper) (S : List Nat) (i : Nat) (o : Oper) (p : Ph) (O : List (Nat × List AV)) (fr : Nat → AV) : Prop := match p.1 with
  | .a c => ∀ σ O', Holds σ0 O' A σ → ∃ id τ, AStep P ops o fr σ (p.2 id) τ ∧ (Holds σ0 ((id, c) :: O') A τ ∧ σ0.objs.length ≤ id)
  | .p => ∀ τ, AStep P ops o fr τ (p.2 0) τ
  | .r => chkAt (Region.before ops) S i = true ∧ ∀ X σ, Holds σ0 (O ++ X) A σ → AStep P ops o fr σ (p.2 0) σ
  | .t O' => S.contains i = true ∧ chkAt (Region.before ops) S i = true ∧ ∀ X σ, Holds σ0 (O ++ X) A σ → ∃ id τ, AStep P ops o fr σ (p.2 0) τ ∧ Holds σ0 (O' id ++ X) A τ ∧ σ0.objs.length ≤ id
def wpdU (ops : Array Oper) (S : List Nat) (K : (Nat → AV) → St → Prop) : Nat → List Oper → List Ph → List (Nat × List AV) → List (Nat × List AV) → (Nat → AV) → Prop
  | i, rest, [], acc, O, fr => ∀ σ, Holds σ0 (acc ++ O) A σ → wpdS P ops S K i rest fr σ
  | _, [], _ :: _, _, _, _ => False
  | i, o :: rest, p :: ps, acc, O, fr => PhStep P σ0 A ops S i o p O fr ∧ match p.1 with
    | .a c => ∀ id, σ0.objs.length ≤ id → wpdU ops S K (i + 1) rest ps ((id, c) :: acc) O (putO fr o.dst (p.2 id))
    | .t O' => ∀ id, σ0.objs.length ≤ id → wpdU ops S K (i + 1) rest ps acc (O' id) (putO fr o.dst (p.2 0))
    | _ => wpdU ops S K (i + 1) rest ps acc O (putO fr o.dst (p.2 0))
end
section
variable {P : Program} {w0 : World} {G : Ghost} {n : Nat} {σ0 : St} {O : List (Nat × List AV)} {A : List Nat} {ops : Array Oper} {S : List Nat}
def aasU (ps : List Ph) (ids : Nat → Nat) (k : Nat) : AV := match ps[k]? with
  | some p => p.val (ids k)
  | none => .junk
def isU (ps : List Ph) (k : Nat) : Bool := match ps[k]? with
  | some (.a _, _) => true
  | _ => false
def isT (ps : List Ph) (k : Nat) : Bool := match ps[k]? with
  | some (.t _, _) => true
  | _ => false
def isI (ps : List Ph) (k : Nat) : Bool := match ps[k]? with
  | some (.p, _) => false
  | some _ => true
  | none => false
def csU (ps : List Ph) (k : Nat) : List AV := match ps[k]? with
  | some (.a c, _) => c
  | _ => []
def OsU (ps : List Ph) (ids : Nat → Nat) (O : List (Nat × List AV)) : Nat → List (Nat × List AV)
  | 0 => O
  | i + 1 => match ps[i]? with
    | some (.t O', _) => O' (ids i)
    | _ => OsU ps ids O i
def accU (ps : List Ph) (ids : Nat → Nat) : Nat → List (Nat × List AV)
  | 0 => []
  | i + 1 => if isU ps i then (ids i, csU ps i) :: accU ps ids i else accU ps ids i
def lstU (ps : List Ph) : Nat → List Nat
  | 0 => []
  | i + 1 => if isU ps i then i :: lstU ps i else lstU ps i
theorem ClosedL.set {listed : Array Bool} (hc : ClosedL ops listed) {i : Nat} (hi : i ∈ Region.ready .any ops listed) : ClosedL ops (listed.setIfInBounds i true) := by
  obtain ⟨h0, o, ho, hall⟩ := mem_ready.1 hi
  intro k o' ho' hk e he hb
  by_cases hki : i = k
  · subst hki
    rw [ho] at ho'
    cases ho'
    exact getD_set_true (hall e he hb)
  · unfold Lst at hk
    rw [getD_set_ne false hki] at hk
    exact getD_set_true (hc k o' ho' hk e he hb)
end
section
variable {P : Program} {σ0 : St} {O : List (Nat × List AV)} {A : List Nat} {ops : Array Oper} {S : List Nat} {K : (Nat → AV) → St → Prop} {i : Nat} {o : Oper} {rest : List Oper} {ps : List Ph} {acc : List (Nat × List AV)} {l : List (Nat × AV)} {t : Tmp}
end
section
variable {P : Program} {Ty : TypeId → Option TI} {fr : Nat → AV} {σ : St} {d : Option Tmp} {ty T T' : TypeId} {pos : String} {af : Array Edge} {gd : Option (Nat × Bool)} {ox oy : Operand}
theorem OpP.of_run {o : Oper} {a : AV} (h : ∀ (G : Ghost) (ρ : Operand → Value) (w : World), (∀ x ∈ o.op.operands, Rel G (ρ x) (aeval fr x)) → ∃ v, (execOp ρ o).run P w = .ok (.value v) w ∧ Rel G v a) : OpP P o fr a := fun τ w0 G act w Q K' hI hr hK => by
  obtain ⟨v, h1, h2⟩ := h G act.eval w hr
  unfold Oper.wp
  rw [h1]
  exact hK v a τ w G ⟨rfl, rfl⟩ (.refl G) hI h2
def chr1 (x : BitVec 8) : Option (List (BitVec 8)) := if x.toNat < 128 then some [x] else none
end

def Ghost.also (G : Ghost) (id new : Nat) : Ghost := { fz := G.fz, loc := fun i => if i = new then G.loc id else G.loc i, tok := G.tok, nt := G.nt, lit := G.lit, bsz := fun i => if i = new then G.bsz id else G.bsz i }
section
variable {P : Program} {n : Nat} {σ σ0 : St} {O : List (Nat × List AV)} {A : List Nat}
end
def St.shut (σ : St) (cl : List Nat) : St := ⟨σ.objs, cl.foldl (fun o t => o.set t false) σ.opn, σ.gl⟩
def St.grow (σ : St) (B : List (Nat × List AV)) (L : List (List AV)) (cl : List Nat) (m : Nat) : St := ⟨(σ.puts B).objs ++ L, (σ.shut cl).opn ++ List.replicate m true, σ.gl⟩
theorem ren_names (n m : Nat) (f : Nat → Nat) (hf : ∀ k, k < m → n ≤ f k) (hinj : ∀ i j, i < m → j < m → f i = f j → i = j) :
    ∃ ρ : Nat → Option Nat, Inj ρ ∧ (∀ k, k < m → ρ (f k) = some (n + k)) ∧ (∀ i, i < n → ρ i = some i) ∧ (∀ i j, ρ i = some j → (∃ k, k < m ∧ f k = i ∧ j = n + k) ∨ (i = j ∧ j < n)) := by
  let ρ : Nat → Option Nat := fun i => match (List.range m).find? (fun k => decide (f k = i)) with | some k => some (n + k) | none => idl n i
  have hρ : ∀ k, k < m → ρ (f k) = some (n + k) := fun k hk => by
    show (match (List.range m).find? (fun k' => decide (f k' = f k)) with | some k => some (n + k) | none => idl n (f k)) = _
    cases hfd : (List.range m).find? (fun k' => decide (f k' = f k)) with
    | none =>
      have := List.find?_eq_none.1 hfd k (List.mem_range.2 hk)
      simp at this
    | some k' =>
      have h1 := List.find?_some hfd
      have h2 := List.mem_range.1 (List.mem_of_find?_eq_some hfd)
      simp only [decide_eq_true_eq] at h1
      rw [hinj k' k h2 hk h1]
  have hold : ∀ i, (∀ k, k < m → f k ≠ i) → ρ i = idl n i := fun i hi => by
    show (match (List.range m).find? (fun k' => decide (f k' = i)) with | some k => some (n + k) | none => idl n i) = _
    cases hfd : (List.range m).find? (fun k' => decide (f k' = i)) with
    | none => rfl
    | some k' =>
      have h1 := List.find?_some hfd
      have h2 := List.mem_range.1 (List.mem_of_find?_eq_some hfd)
      simp only [decide_eq_true_eq] at h1
      exact absurd h1 (hi k' h2)
  have hcase : ∀ i j, ρ i = some j → (∃ k, k < m ∧ f k = i ∧ j = n + k) ∨ (i = j ∧ j < n) := fun i j h => by
    by_cases hx : ∃ k, k < m ∧ f k = i
    · obtain ⟨k, hk, rfl⟩ := hx
      rw [hρ k hk] at h
      exact .inl ⟨k, hk, rfl, (Option.some.inj h).symm⟩
    · rw [hold i (fun k hk e => hx ⟨k, hk, e⟩)] at h
      exact .inr (idl_lt h)
  refine ⟨ρ, fun i i' j h1 h2 => ?_, hρ, fun i hi => ?_, hcase⟩
  · rcases hcase i j h1 with ⟨k, hk, e1, e2⟩ | ⟨e1, e2⟩ <;> rcases hcase i' j h2 with ⟨k', hk', e3, e4⟩ | ⟨e3, e4⟩
    · have : k = k' := by omega
      subst this
      rw [← e1, ← e3]
    · omega
    · omega
    · rw [e1, e3]
  · rw [hold i (fun k hk e => by have := hf k hk; omega)]
    simp [idl, hi]
inductive WkM : List (Nat × List AV) → List (Nat × List AV) → Prop where
  | nil : WkM [] []
  | cons {i : Nat} {a b : List AV} {l m : List (Nat × List AV)} (hs : spcl a = false) (h : WkL a b) (t : WkM l m) : WkM ((i, a) :: l) ((i, b) :: m)
section
variable {P : Program} {σ : St}
variable {σ0 : St} {O : List (Nat × List AV)} {A : List Nat} {fr : Nat → AV}
theorem ACall.newB1 {g : FuncId} {args : List AV} {α : Type} {B : (Nat → Nat) → α → List (List AV)} {c : α} (m : Nat) (hm : ∀ f, (B f c).length = m) (h0 : 0 < m)
    (hc : ∀ ρ κ f g, (∀ i, i < m → ρ (f i) = some (g i)) → WkLL ((B f c).map (cutL ρ κ)) (B g c)) (h : ACall P g args σ (fun a τ => ∃ f : Nat → Nat, a = .ref (f 0) 0 ∧ (∀ i, i < (B f c).length → σ.objs.length ≤ f i) ∧ Holds σ (zipB f 0 (B f c)) [] τ)) :
    ACall P g args σ (fun a τ => a = .ref σ.objs.length 0 ∧ τ = ⟨σ.objs ++ B (fun i => σ.objs.length + i) c, σ.opn, σ.gl⟩) := by
  refine ACall.weaken (K := fun a τ => ∃ L, WkLL L (B (fun i => σ.objs.length + i) c) ∧ a = .ref σ.objs.length 0 ∧ τ = ⟨σ.objs ++ L, σ.opn, σ.gl⟩) ?_ (fun a τ ⟨L, h1, h2, h3⟩ => ⟨⟨σ.objs ++ B (fun i => σ.objs.length + i) c, σ.opn, σ.gl⟩, fun w0 G w hI => by subst h3; exact hI.wkoL h1, h2, rfl⟩)
  refine h.ren fun a σ' ⟨f, ha, hf, hH⟩ => ?_
  subst ha
  rw [hm] at hf
  have hz : ∀ k, k < m → ∃ x, (B f c)[k]? = some x ∧ (zipB f 0 (B f c))[k]? = some (f k, x) := fun k hk => by
    have hx : (B f c)[k]? = some ((B f c)[k]'(by rw [hm]; exact hk)) := List.getElem?_eq_getElem _
    exact ⟨_, hx, by rw [zipB_get, hx, Nat.zero_add]; rfl⟩
  have hinj : ∀ i j, i < m → j < m → f i = f j → i = j := fun i j hi hj e => by
    obtain ⟨x, _, hx⟩ := hz i hi
    obtain ⟨y, _, hy⟩ := hz j hj
    exact Classical.byContradiction fun hn => dist_get hH.dist hx hy hn e
  obtain ⟨ρ, r1, r2, r3, r4⟩ := ren_names σ.objs.length m f hf hinj
  have hmap := hc ρ (idl σ.opn.length) f (fun i => σ.objs.length + i) r2
  refine ⟨⟨σ.objs ++ (B f c).map (cutL ρ (idl σ.opn.length)), σ.opn, σ.gl⟩, .ref σ.objs.length 0, ρ, idl σ.opn.length, ⟨r1, idl_inj _, r3, fun i hi => by simp [idl, hi], fun i j h => ?_, fun t u h => (idl_lt h).2, Nat.le_refl _, rfl, fun j d hj => ?_, fun t u h hu => ?_⟩, ?_, _, hmap, rfl, rfl⟩
  · simp only [List.length_append, List.length_map, hm]
    rcases r4 i j h with ⟨k, hk, e1, e2⟩ | ⟨e1, e2⟩ <;> omega
  · by_cases hlt : j < σ.objs.length
    · simp only at hj
      rw [List.getElem?_append_left hlt] at hj
      refine ⟨j, d, r3 _ hlt, hH.base j d hj (fun p hp => ?_), .inl ⟨hj, rfl⟩⟩
      obtain ⟨k, hk, e1, e2⟩ := zipB_mem hp
      rw [hm] at hk
      have := hf k hk
      rw [e1, Nat.zero_add]
      omega
    · simp only at hj
      rw [List.getElem?_append_right (by omega)] at hj
      have hk := (List.getElem?_eq_some_iff.1 hj).1
      rw [List.length_map, hm] at hk
      obtain ⟨x, hx, hzx⟩ := hz (j - σ.objs.length) hk
      refine ⟨f (j - σ.objs.length), x, by rw [r2 _ hk]; congr 1; omega, hH.obj _ (List.mem_of_getElem? hzx), .inr ?_⟩
      rw [List.getElem?_map, hx] at hj
      exact (Option.some.inj hj).symm
  · obtain ⟨rfl, _⟩ := idl_lt h
    exact hH.opn t hu
  · simp only [cutAV, r2 0 h0, Nat.add_zero]
    exact Wk.refl _
theorem h_calln1 (hH : Holds σ0 O A σ) {o : Oper} {f : Operand} {xs : List Operand} {gg : FuncId} {first cap args : List AV} {α : Type} {B : (Nat → Nat) → α → List (List AV)} (c : α) (hc : callOf o = some (f, xs)) (hf : aeval fr f = .fn (.func gg) first cap) (hargs : WkL (first ++ xs.map (aeval fr) ++ cap) args)
    (hcall : ACall P gg args σ (fun a τ => a = .ref σ.objs.length 0 ∧ τ = ⟨σ.objs ++ B (fun i => σ.objs.length + i) c, σ.opn, σ.gl⟩)) : ∃ id τ, OpS P o fr σ (fun a' τ' => a' = .ref id 0 ∧ τ' = τ) ∧ (Holds σ0 (zipB (fun i => id + i) 0 (B (fun i => id + i) c) ++ O) A τ ∧ σ0.objs.length ≤ id) :=
  ⟨_, _, OpS.of_call hc hf hargs hcall, hH.addL _, hH.olen⟩
end
section
variable {P : Program} {Ty : TypeId → Option TI} {σ σ0 : St} {O : List (Nat × List AV)} {A' : List Nat} {ops : Array Oper} {fr : Nat → AV} {d : Option Tmp} {ty : TypeId} {pos : String} {af : Array Edge} {g : Option (Nat × Bool)} {ox oy oi : Operand} {T T' E U : TypeId} {α : Type} {e : α → AV} {sz id m cap : Nat}
def gC (id sz c n : Nat) : AV := if n = 0 then (if c = 0 then .vec id sz 0 else .vc id sz 0 0 c) else .vec id sz n
def gK (e : α → AV) (c : Nat) (l : List α) : List AV := if l.length = 0 then (if c = 0 then [] else [.junk]) else cL e l
def gR (id sz c n : Nat) : AV := if c = 0 then .vec id sz 0 else .vc id sz 0 n c
inductive GG (id sz c n : Nat) : AV → Prop where
  | c : GG id sz c n (gC id sz c n)
  | r (h : n ≤ c) : GG id sz c n (gR id sz c n)
theorem wk_vcv {c n : Nat} (h : 0 < n) : Wk (.vc id sz 0 n c) (.vec id sz n) := fun G v hr => by
  cases hr with
  | vc _ _ _ _ _ b hc hm hl hs => exact .vec _ _ _ c b h hc hm hl (by simpa using hs)
theorem GG.wk {c n : Nat} {a : AV} (h : GG id sz c n a) : Wk a (gC id sz c n) := by
  cases h with
  | c => exact .refl _
  | r h =>
    unfold gR gC
    split
    · rename_i h0
      rw [if_pos (by omega)]
      exact .refl _
    · split
      · rename_i h1 h2
        subst h2
        exact .refl _
      · exact wk_vcv (by omega)
def cpL (v l : List α) : Option (List α) := if l.length ≤ v.length then some (l ++ v.drop l.length) else none
end
end Go.Va
namespace Go.Va
theorem WkL.of_eqL {a b : List AV} (h : a = b) : WkL a b := by subst h; exact .refl _
end Go.Va
namespace Go.Va
open Go Go.RowKit
section
variable {P : Program} {Ty : TypeId → Option TI} {σ σ0 : St} {O : List (Nat × List AV)} {A' : List Nat} {fr : Nat → AV} {d : Option Tmp} {ty : TypeId} {pos : String} {af : Array Edge} {g : Option (Nat × Bool)} {ox oy : Operand} {T E : TypeId} {α : Type} {e : α → AV} {sz : Nat}
def cLh (e : α → AV) (l : List α) (i : Nat) (cs : List AV) : List AV := cL e (l.take i) ++ (cs ++ cL e (l.drop (i + 1)))
end
end Go.Va
namespace Go.Va
end Go.Va
namespace Go.Va
end Go.Va
namespace Go.Va
open Go Go.RowKit
set_option linter.unusedVariables false
set_option linter.unusedSimpArgs false
section
variable {P : Program} {Ty : TypeId → Option TI} {n : Nat} {σ : St} {ops : Array Oper} {K : (Nat → AV) → St → Prop} {o : Oper} {rest : List Oper} {l : List (Nat × AV)} {t : Nat}
def gd (ops : Array Oper) (n : Nat) (o : Oper) (fr : Nat → AV) : Option Nat := match guardOf ops o fr with
  | some true => match o.dst with | some t => bif Nat.ble (t + 1) n then some t else none | none => none
  | _ => none
theorem gd_some {fr : Nat → AV} (h : gd ops n o fr = some t) : o.dst = some t ∧ Nat.ble (t + 1) n = true ∧ guardOf ops o fr = some true := by
  unfold gd at h
  split at h
  · rename_i h1
    split at h
    · rename_i u h2
      cases hb : Nat.ble (u + 1) n with
      | true => rw [hb] at h; simp only [cond_true, Option.some.injEq] at h; subst h; exact ⟨h2, hb, h1⟩
      | false => rw [hb] at h; simp at h
    · cases h
  · cases h
theorem m_ (a : AV) (h : gd ops n o (fm l) = some t) (ho : OpP P o (fm l) a) (k : wpo P n ops K rest (fm ((t, a) :: l)) σ) : wpo P n ops K (o :: rest) (fm l) σ := by
  obtain ⟨h1, h2, h3⟩ := gd_some h
  exact wpo_mv h1 h2 h3 ho k
variable {x y c : Operand} {ty : TypeId} {pos : String} {af : Array Edge} {g : Option (Nat × Bool)} {d : Option Tmp}
theorem mm (hT : TyOk P Ty) (a : AV) (h : gd ops n ⟨d, .move x, ty, pos, af, g⟩ (fm l) = some t) (hx : aeval (fm l) x = a) (k : wpo P n ops K rest (fm ((t, a) :: l)) σ) : wpo P n ops K (⟨d, .move x, ty, pos, af, g⟩ :: rest) (fm l) σ := m_ a h (o_mv hT hx (Wk.refl _)) k
theorem ma (hT : TyOk P Ty) (a : AV) (h : gd ops n ⟨d, .assign x, ty, pos, af, g⟩ (fm l) = some t) (hx : aeval (fm l) x = a) (k : wpo P n ops K rest (fm ((t, a) :: l)) σ) : wpo P n ops K (⟨d, .assign x, ty, pos, af, g⟩ :: rest) (fm l) σ := m_ a h (o_as hT hx (Wk.refl _)) k
theorem mc (hT : TyOk P Ty) (a : AV) (h : gd ops n o (fm l) = some t) (hc : callOf o = none) (ho : ∀ τ, aop Ty false o (aeval (fm l)) τ = some (a, τ)) (k : wpo P n ops K rest (fm ((t, a) :: l)) σ) : wpo P n ops K (o :: rest) (fm l) σ := m_ a h (o_c hT false hc ho) k
def gk (ops : Array Oper) (n : Nat) (o : Oper) (fr : Nat → AV) : Option Nat := match guardOf ops o fr with
  | some false => match o.dst with | some t => bif Nat.ble (t + 1) n then some t else none | none => none
  | _ => none
theorem k_ (h : gk ops n o (fm l) = some t) (k : wpo P n ops K rest (fm ((t, .tup []) :: l)) σ) : wpo P n ops K (o :: rest) (fm l) σ := by
  unfold gk at h
  split at h
  · rename_i h1
    split at h
    · rename_i u h2
      cases hb : Nat.ble (u + 1) n with
      | true => rw [hb] at h; simp only [cond_true, Option.some.injEq] at h; subst h; exact wpo_skip h2 hb h1 k
      | false => rw [hb] at h; simp at h
    · cases h
  · cases h
theorem l_ {α β : Type} {z : α} {f : α → Option β} {r : β} (H : lt z f = some r) (enc : α → AV) (h : gd ops n o (fm l) = some t) (ho : OpP P o (fm l) (enc z)) (k : ∀ x, f x = some r → wpo P n ops K rest (fm ((t, enc x) :: l)) σ) : wpo P n ops K (o :: rest) (fm l) σ := by
  obtain ⟨h1, h2, h3⟩ := gd_some h
  exact wpo_lt H enc h1 h2 h3 ho k
theorem b_ {α β : Type} {z : Option α} {f : α → Option β} {r : β} (H : z.bind f = some r) (enc : α → AV) (h : gd ops n o (fm l) = some t) (ho : ∀ x, z = some x → OpP P o (fm l) (enc x)) (k : ∀ x, z = some x → f x = some r → wpo P n ops K rest (fm ((t, enc x) :: l)) σ) : wpo P n ops K (o :: rest) (fm l) σ := by
  obtain ⟨h1, h2, h3⟩ := gd_some h
  exact wpo_bd H enc h1 h2 h3 ho k
theorem pt (hT : TyOk P Ty) (a : AV) (h : gd ops n ⟨d, .pick c x y, ty, pos, af, g⟩ (fm l) = some t) (hc : aeval (fm l) c = .bool true) (hx : aeval (fm l) x = a) (k : wpo P n ops K rest (fm ((t, a) :: l)) σ) : wpo P n ops K (⟨d, .pick c x y, ty, pos, af, g⟩ :: rest) (fm l) σ := m_ a h (o_pick_t hT hc hx (Wk.refl _)) k
theorem pf (hT : TyOk P Ty) (a : AV) (h : gd ops n ⟨d, .pick c x y, ty, pos, af, g⟩ (fm l) = some t) (hc : aeval (fm l) c = .bool false) (hx : aeval (fm l) y = a) (k : wpo P n ops K rest (fm ((t, a) :: l)) σ) : wpo P n ops K (⟨d, .pick c x y, ty, pos, af, g⟩ :: rest) (fm l) σ := m_ a h (o_pick_f hT hc hx (Wk.refl _)) k
theorem sr {id : Nat} {y : Code} {Q : AExit → (Nat → AV) → St → Prop} {fr : Nat → AV} (hd : allDst n ops = true) (h : wpo P n ops (thenQ (AWP P n y Q) Q .normal) ops.toList fr σ) : AWP P n (.seq (.region id ops false) y) Q fr σ := awp_seq (awp_region hd h)
end
theorem ob {α β : Type} {x : Option α} {f : α → Option β} {b : β} (h : x.bind f = some b) : ∃ a, x = some a ∧ f a = some b := Option.bind_eq_some_iff.1 h
theorem nb {a b : Nat} (h : Nat.ble a b = true) : a ≤ b := Nat.le_of_ble_eq_true h
theorem wr {a : AV} : Wk a a := .refl a
theorem wc {f : Nat → AV} {t : Nat} {l : List (Nat × AV)} (k : WkF f (fm l)) : WkF f (fm ((t, f t) :: l)) := wkf_cons (.refl _) k
theorem oi {α : Type} {x y : α} (h : some x = some y) : x = y := Option.some.inj h
end Go.Va
