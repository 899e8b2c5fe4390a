/- What a call has made is forgotten; regions of open order as one predicate; code; functions. -/
import Derived.Test.YtnjijefhnmnjgaaVaM
namespace Go.Va
open Go Go.RowKit
set_option linter.unusedVariables false
set_option linter.unusedSimpArgs false

mutual
/-- A value without what leads to variables and tokens. -/
def detok : AV → AV
  | .sl _ sz es => .sl .no sz (detokL es)
  | .agg cs => .agg (detokL cs)
  | .tup vs => .tup (detokL vs)
  | .fptr x o => .fptr (detokL x) o
  | .iface t v => .iface t (detok v)
  | .fn f a b => .fn f (detokL a) (detokL b)
  | .ref _ _ => .junk
  | .msl _ _ _ => .junk
  | .junk => .junk
  | .int k n => .int k n
  | .bool b => .bool b
  | .str s => .str s
  | .nilp => .nilp
  | .nils => .nils
  | .nilm => .nilm
  | .nilf => .nilf
  | .nili => .nili
def detokL : List AV → List AV
  | [] => []
  | a :: l => detok a :: detokL l
end
theorem detokL_map : ∀ l, detokL l = l.map detok
  | [] => rfl
  | a :: l => by rw [detokL, detokL_map l]; rfl
theorem detok_cells (a : AV) (h : ∀ cs, a ≠ .agg cs) : (detok a).cells = [detok a] := by
  cases a <;> first | rfl | exact absurd rfl (h _)
theorem detok_len (a : AV) : (detok a).cells.length = a.cells.length := by
  cases a <;> first | rfl | skip
  simp [detok, AV.cells, detokL_map]
theorem detok_at {a : AV} {j : Nat} {x : AV} (h : (detok a).cells[j]? = some x) : ∃ y, a.cells[j]? = some y ∧ x = detok y := by
  by_cases hagg : ∃ cs, a = .agg cs
  · obtain ⟨cs, rfl⟩ := hagg
    simp only [detok, AV.cells, detokL_map, List.getElem?_map, Option.map_eq_some_iff] at h ⊢
    obtain ⟨y, h1, h2⟩ := h
    exact ⟨y, h1, h2.symm⟩
  · have hn : ∀ cs, a ≠ .agg cs := fun cs he => hagg ⟨cs, he⟩
    rw [detok_cells a hn] at h
    have hc : a.cells = [a] := by cases a <;> first | rfl | exact absurd rfl (hn _)
    cases j with
    | zero => simp at h; exact ⟨a, by rw [hc]; rfl, h.symm⟩
    | succ j => simp at h

/-- What is left of a ghost where variables from nl on, and tokens from nt on, are forgotten. -/
def Ghost.cut (G : Ghost) (nl nt : Nat) : Ghost := { fz := G.fz, loc := fun i => if i < nl then G.loc i else none, tok := fun t => if t < nt then G.tok t else none, nt := nt, lit := G.lit }
theorem Rel.detok {G : Ghost} {v : Value} {a : AV} (h : Rel G v a) (nl nt : Nat) : Rel (G.cut nl nt) v (detok a) := by
  induction h with
  | junk v => exact .junk v
  | int k n => exact .int k n
  | bool b => exact .bool b
  | str s => exact .str s
  | nilp => exact .nilp
  | nils => exact .nils
  | nilm => exact .nilm
  | nilf => exact .nilf
  | nili => exact .nili
  | agg vs as hl _ ih =>
    simp only [Va.detok, detokL_map]
    refine .agg vs _ (by simpa using hl) (fun i v a h1 h2 => ?_)
    rw [List.getElem?_map, Option.map_eq_some_iff] at h2
    obtain ⟨y, h2, rfl⟩ := h2
    exact ih i v y h1 h2
  | tup vs as hl _ ih =>
    simp only [Va.detok, detokL_map]
    refine .tup vs _ (by simpa using hl) (fun i v a h1 h2 => ?_)
    rw [List.getElem?_map, Option.map_eq_some_iff] at h2
    obtain ⟨y, h2, rfl⟩ := h2
    exact ih i v y h1 h2
  | sl b o c t sz es val hc hm hz hf _ ht ih =>
    simp only [Va.detok, detokL_map]
    have hlen : (es.map Va.detok).length = es.length := List.length_map ..
    rw [← hlen]
    refine .sl b o c .no sz _ val (by rw [hlen]; exact hc) hm (fun e he => ?_) (fun i e j a h1 h2 => ?_) (fun i e j a h1 h2 => ?_) trivial
    · obtain ⟨y, hy, rfl⟩ := List.mem_map.1 he
      rw [detok_len]; exact hz y hy
    · rw [List.getElem?_map, Option.map_eq_some_iff] at h1
      obtain ⟨y, h1, rfl⟩ := h1
      obtain ⟨z, h3, rfl⟩ := detok_at h2
      exact hf i y j z h1 h3
    · rw [List.getElem?_map, Option.map_eq_some_iff] at h1
      obtain ⟨y, h1, rfl⟩ := h1
      obtain ⟨z, h3, rfl⟩ := detok_at h2
      exact ih i y j z h1 h3
  | sl0 A c t sz hm ht => exact .sl0 A c .no sz hm (.inl rfl)
  | fptr b o off x val hf _ ih =>
    simp only [Va.detok, detokL_map]
    refine .fptr b o off _ val (fun j a h1 => ?_) (fun j a h1 => ?_)
    · rw [List.getElem?_map, Option.map_eq_some_iff] at h1
      obtain ⟨y, h1, rfl⟩ := h1
      exact hf j y h1
    · rw [List.getElem?_map, Option.map_eq_some_iff] at h1
      obtain ⟨y, h1, rfl⟩ := h1
      exact ih j y h1
  | ref id off b h => exact .junk _
  | msl id off len c b hc h => exact .junk _
  | iface t v a _ ih => exact .iface t v _ ih
  | fn f fs cs fa ca hl hk _ _ ih1 ih2 =>
    simp only [Va.detok, detokL_map]
    refine .fn f fs cs _ _ (by simpa using hl) (by simpa using hk) (fun i v a h1 h2 => ?_) (fun i v a h1 h2 => ?_)
    · rw [List.getElem?_map, Option.map_eq_some_iff] at h2
      obtain ⟨y, h2, rfl⟩ := h2
      exact ih1 i v y h1 h2
    · rw [List.getElem?_map, Option.map_eq_some_iff] at h2
      obtain ⟨y, h2, rfl⟩ := h2
      exact ih2 i v y h1 h2
/-- What was told of an elder ghost stays. -/
theorem Rel.cut {G G' : Ghost} {v : Value} {a : AV} (h : Rel G' v a) {nl nt : Nat} (hl : ∀ i b, G.loc i = some b → i < nl) (hn : G.nt ≤ nt) : ∀ {v0 : Value}, Rel G v0 a → Rel (G'.cut nl nt) v a := by
  have tin : ∀ {t : Tok}, TokIn G t → ∀ {b o n c sz : Nat}, TokOk G' t b o n c sz → TokOk (G'.cut nl nt) t b o n c sz := by
    intro t h1 b o n c sz h2
    cases t with
    | no => trivial
    | full => exact h2
    | own t =>
      have hlt : t < nt := Nat.lt_of_lt_of_le h1 hn
      exact ⟨hlt, h2.2.imp id (fun h => by simp [Ghost.cut, hlt, h])⟩
  have tin0 : ∀ {t : Tok}, TokIn G t → TokIn (G'.cut nl nt) t := by
    intro t h1
    cases t with
    | own t => exact Nat.lt_of_lt_of_le h1 hn
    | _ => trivial
  induction h with
  | junk v => intro _ _; exact .junk v
  | int k n => intro _ _; exact .int k n
  | bool b => intro _ _; exact .bool b
  | str s => intro _ _; exact .str s
  | nilp => intro _ _; exact .nilp
  | nils => intro _ _; exact .nils
  | nilm => intro _ _; exact .nilm
  | nilf => intro _ _; exact .nilf
  | nili => intro _ _; exact .nili
  | agg vs as hl _ ih =>
    intro v0 h0
    cases h0 with
    | agg vs0 _ hl0 h0 =>
      refine .agg vs as hl (fun i v a h1 h2 => ?_)
      obtain ⟨u, hu⟩ : ∃ u, vs0[i]? = some u := ⟨_, Array.getElem?_eq_getElem (by rw [hl0]; exact (List.getElem?_eq_some_iff.1 h2).1)⟩
      exact ih i v a h1 h2 (h0 i u a hu h2)
  | tup vs as hl _ ih =>
    intro v0 h0
    cases h0 with
    | tup vs0 _ hl0 h0 =>
      refine .tup vs as hl (fun i v a h1 h2 => ?_)
      obtain ⟨u, hu⟩ : ∃ u, vs0[i]? = some u := ⟨_, Array.getElem?_eq_getElem (by rw [hl0]; exact (List.getElem?_eq_some_iff.1 h2).1)⟩
      exact ih i v a h1 h2 (h0 i u a hu h2)
  | sl b o c t sz es val hc hm hz hf _ ht ih =>
    intro v0 h0
    cases h0 with
    | sl b0 o0 c0 _ _ _ val0 hc0 hm0 hz0 hf0 h0 ht0 =>
      exact .sl b o c t sz es val hc hm hz hf (fun i e j a h1 h2 => ih i e j a h1 h2 (h0 i e j a h1 h2)) (tin ht0.in_ ht)
    | sl0 A c0 _ _ hm0 ht0 =>
      refine .sl b o c t sz [] val hc hm hz hf (fun i e j a h1 h2 => by simp at h1) ?_
      rcases ht0 with rfl | ⟨_, ht0⟩
      · trivial
      · exact tin ht0 ht
  | sl0 A c t sz hm ht =>
    intro v0 h0
    refine .sl0 A c t sz hm (ht.imp id fun h => ⟨h.1, ?_⟩)
    cases t with
    | own t =>
      cases h0 with
      | sl b0 o0 c0 _ _ _ val0 hc0 hm0 hz0 hf0 h0 ht0 => exact tin0 ht0.in_
      | sl0 A c0 _ _ hm0 ht0 => exact tin0 (ht0.resolve_left (by simp)).2
    | _ => trivial
  | fptr b o off x val hf _ ih =>
    intro v0 h0
    cases h0 with
    | fptr b0 o0 _ _ val0 hf0 h0 => exact .fptr b o off x val hf (fun j a h1 => ih j a h1 (h0 j a h1))
  | ref id off b h =>
    intro v0 h0
    cases h0 with
    | ref _ _ b0 h0 => exact .ref id off b (by simp [Ghost.cut, hl id b0 h0, h])
  | msl id off len c b hc h =>
    intro v0 h0
    cases h0 with
    | msl _ _ _ c0 b0 hc0 h0 => exact .msl id off len c b hc (by simp [Ghost.cut, hl id b0 h0, h])
  | iface t v a _ ih =>
    intro v0 h0
    cases h0 with
    | iface _ u0 _ h0 => exact .iface t v a (ih h0)
  | fn f fs cs fa ca hl hk _ _ ih1 ih2 =>
    intro v0 h0
    cases h0 with
    | fn _ fs0 cs0 _ _ hl0 hk0 h01 h02 =>
      refine .fn f fs cs fa ca hl hk (fun i v a h1 h2 => ?_) (fun i v a h1 h2 => ?_)
      · obtain ⟨u, hu⟩ : ∃ u, fs0[i]? = some u := ⟨_, Array.getElem?_eq_getElem (by rw [hl0]; exact (List.getElem?_eq_some_iff.1 h2).1)⟩
        exact ih1 i v a h1 h2 (h01 i u a hu h2)
      · obtain ⟨u, hu⟩ : ∃ u, cs0[i]? = some u := ⟨_, Array.getElem?_eq_getElem (by rw [hk0]; exact (List.getElem?_eq_some_iff.1 h2).1)⟩
        exact ih2 i v a h1 h2 (h02 i u a hu h2)

/-- The state goes on: what was there is there. -/
structure St.Le (σ σ' : St) : Prop where
  objs : ∀ (id : Nat) (c : List AV), σ.objs[id]? = some c → σ'.objs[id]? = some c
  opn : ∀ t : Nat, σ.opn[t]? = some true → σ'.opn[t]? = some true
theorem St.Le.refl (σ : St) : σ.Le σ := ⟨fun _ _ h => h, fun _ h => h⟩
theorem St.Le.trans {a b c : St} (h : a.Le b) (k : b.Le c) : a.Le c := ⟨fun i x e => k.objs i x (h.objs i x e), fun t e => k.opn t (h.opn t e)⟩
theorem Inv.forget {w0 : World} {G G' : Ghost} {w w' : World} {σ σ' : St} (h : Inv w0 G w σ) (hG : G.Le G') (h' : Inv w0 G' w' σ') (hσ : σ.Le σ') : G.Le (G'.cut σ.objs.length σ.opn.length) ∧ Inv w0 (G'.cut σ.objs.length σ.opn.length) w' σ := by
  have hloc : ∀ i b, (G'.cut σ.objs.length σ.opn.length).loc i = some b → i < σ.objs.length ∧ G'.loc i = some b := fun i b hl => by
    simp only [Ghost.cut] at hl
    split at hl
    · exact ⟨by assumption, hl⟩
    · cases hl
  have htok : ∀ t x, (G'.cut σ.objs.length σ.opn.length).tok t = some x → t < σ.opn.length ∧ G'.tok t = some x := fun i b hl => by
    simp only [Ghost.cut] at hl
    split at hl
    · exact ⟨by assumption, hl⟩
    · cases hl
  have hle : G.Le (G'.cut σ.objs.length σ.opn.length) := ⟨hG.fz, fun i b hi => by simp [Ghost.cut, h.locdom i b hi, hG.loc i b hi], fun t x ht => by
    have := h.tokdom t x ht
    simp [Ghost.cut, this, hG.tok t x ht], h.nt, hG.lit⟩
  refine ⟨hle, ⟨h'.below, h'.fz, fun id c hc => ?_, fun id b o hl => h'.locfz id b o (hloc id b hl).2, fun id b hl => (hloc id b hl).1, fun i j b hi hj => h'.locinj i j b (hloc i b hi).2 (hloc j b hj).2, fun t b top en ho ht => ?_, fun t x ht => (htok t x ht).1,
    fun t t' x x' a1 a2 a3 a4 a5 => h'.tokinj t t' x x' (hσ.opn t a1) (hσ.opn t' a2) (htok t x a3).2 (htok t' x' a4).2 a5, Nat.le_refl _, fun b hb => by
      obtain ⟨k1, k2, k3, k4⟩ := h'.lit b hb
      exact ⟨k1, k2, fun id hl => k3 id (hloc id b hl).2, fun t x ho ht => k4 t x (hσ.opn t ho) (htok t x ht).2⟩⟩⟩
  · obtain ⟨b0, T0, vs0, e1, e2, e3, e4, e5⟩ := h.loc id c hc
    obtain ⟨b, T, vs, f1, f2, f3, f4, f5⟩ := h'.loc id c (hσ.objs id c hc)
    refine ⟨b, T, vs, ?_, f2, f3, ⟨f4.len, fun i v a g1 g2 => ?_⟩, f5⟩
    · have := hle.loc id b0 e1
      rw [(hloc id b0 this).2] at f1
      injection f1 with f1
      rw [← f1]; exact this
    · obtain ⟨u, hu, hru⟩ := e4.get g2
      exact (f4.at_ i v a g1 g2).cut (G := G) (fun i b hi => h.locdom i b hi) h.nt hru
  · obtain ⟨e1, e2, e3, e4⟩ := h'.tok t b top en (hσ.opn t ho) (htok t _ ht).2
    exact ⟨e1, e2, e3, fun id hl => e4 id (hloc id b hl).2⟩
/-- A call that leaves the state alone: what it has made beside is forgotten. -/
theorem ACall.forget {P : Program} {g : FuncId} {args : List AV} {σ : St} {K : AV → St → Prop} (h : ACall P g args σ K) (hk : ∀ a σ', K a σ' → σ.Le σ') : ACall P g args σ (fun a σ'' => σ'' = σ ∧ ∃ a0 σ', K a0 σ' ∧ a = detok a0) := by
  refine ⟨h.1, fun w0 G w vs hI hr => (h.2 w0 G w vs hI hr).mono ?_⟩
  rintro e w' ⟨v, a, σ', G', rfl, h1, h2, h3, h4⟩
  obtain ⟨k1, k2⟩ := hI.forget h1 h2 (hk a σ' h4)
  exact ⟨v, detok a, σ, _, rfl, k1, k2, h3.detok _ _, rfl, a, σ', h4, rfl⟩
end Go.Va
