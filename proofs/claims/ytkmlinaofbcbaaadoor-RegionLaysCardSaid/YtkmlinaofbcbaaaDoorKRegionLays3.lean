/- Where any things stand, laid one behind the other, any bytes in pieces, and the things of any foot and pieces, are what the chapter says. (part 3 of 8) -/
import Derived.Test.YtkmlinaofbcbaaaDoorKRegionLays2
import Derived.Carry
import Derived.ChangeArms
import Derived.ChangeOld
import Derived.KernelRfl
import Derived.Lib.AppendZeros
import Derived.Test.YtkmlinaofbcbaaaDoorProg
import Derived.WideShapes
namespace Go.Va
open Go Go.RowKit
set_option linter.unusedVariables false
set_option linter.unusedSimpArgs false
/-- What is known of a ghost where a variable's cells never change any more. -/
noncomputable def Ghost.frz (G : Ghost) (b : Nat) (vs : List Value) (t top en : Nat) : Ghost :=
  { G with fz := fun x o => if x = b then vs[o]? else G.fz x o, tok := fun i => if i = t then some (b, top, en) else G.tok i, nt := t + 1 }
theorem Inv.freeze {w0 : World} {G : Ghost} {w : World} {σ : St} (h : Inv w0 G w σ) {id b : Nat} {cells : List AV} (hc : σ.objs[id]? = some cells) (hl : G.loc id = some b) (hne : cells ≠ []) (top en : Nat) (htop : top ≤ cells.length) (hen : en ≤ G.bsz id) :
    ∃ vs, RelL G vs (cells.take top) ∧ (∀ v ∈ vs, v.oneCell' = true) ∧ G.Le (G.frz b vs σ.opn.length top en) ∧ Inv w0 (G.frz b vs σ.opn.length top en) w ⟨σ.objs.set id [], σ.opn ++ [true], σ.gl⟩ := by
  obtain ⟨b', T, vs, k1, k2, k3, k4, k5, k6⟩ := h.loc id cells hc hne
  rw [hl] at k1
  injection k1 with k1
  subst k1
  have hidlt : id < σ.objs.length := h.locdom id b hl
  have hfzb : ∀ o, G.fz b o = none := fun o => h.locfz id b o cells hl hc hne
  have htn : ∀ t x, G.tok t = some x → t ≠ σ.opn.length := fun t x ht => by have := h.tokdom t x ht; omega
  have hvl : (vs.toList.take top).length = top := by have := k4.le; simp; omega
  have h1 : ∀ v ∈ vs.toList.take top, v.oneCell' = true := fun v hv => k5 v (List.mem_of_mem_take hv)
  have hle : G.Le (G.frz b (vs.toList.take top) σ.opn.length top en) :=
    ⟨fun x o v hf => by
      simp only [Ghost.frz]
      rw [if_neg (fun he => by subst he; rw [hfzb o] at hf; cases hf)]
      exact hf, fun _ _ h => h, fun t x ht => by simp [Ghost.frz, htn t x ht, ht], by simp only [Ghost.frz]; have := h.nt; omega, fun _ h => h, fun _ _ _ => rfl⟩
  have key : ∀ (i : Nat) (c : List AV), (σ.objs.set id [])[i]? = some c → c ≠ [] → σ.objs[i]? = some c ∧ i ≠ id := by
    intro i c hc hn
    rw [List.getElem?_set] at hc
    split at hc
    · first
        | (cases hc; exact absurd rfl hn)
        | (split at hc
           · cases hc; exact absurd rfl hn
           · cases hc)
    · rename_i he; exact ⟨hc, Ne.symm he⟩
  have hb : ∀ (i : Nat) (c : List AV), (σ.objs.set id [])[i]? = some c → c ≠ [] → ∀ x, G.loc i = some x → x ≠ b := by
    intro i c hc' hn x hx he
    subst he
    obtain ⟨a1, a2⟩ := key i c hc' hn
    exact a2 (h.locinj i id x c cells hx hl a1 hc hn hne)
  have htok : ∀ t x, σ.opn[t]? = some true → G.tok t = some x → x.1 ≠ b := by
    intro t x ho ht he
    obtain ⟨_, _, _, e4⟩ := h.tok t x.1 x.2.1 x.2.2 ho ht
    exact hne (Option.some.inj ((e4 id (he ▸ hl)).symm.trans hc)).symm
  have htk : ∀ t x, (σ.opn ++ [true])[t]? = some true → (G.frz b (vs.toList.take top) σ.opn.length top en).tok t = some x → (t = σ.opn.length ∧ x = (b, top, en)) ∨ (σ.opn[t]? = some true ∧ G.tok t = some x) := by
    intro t x ho ht
    simp only [Ghost.frz] at ht
    split at ht
    · rename_i he; cases ht; exact .inl ⟨he, rfl⟩
    · have hlt := h.tokdom t x ht
      rw [List.getElem?_append_left hlt] at ho
      exact .inr ⟨ho, ht⟩
  have hrel : RelL G (vs.toList.take top) (cells.take top) := by
    have := k4.rel.take top
    rwa [List.take_take, Nat.min_eq_left htop] at this
  refine ⟨vs.toList.take top, hrel, h1, hle, ⟨h.below, fun x o v hf => ?_, fun i c hc' hn => ?_, fun i x o c hl' hc' hn => ?_, h.loclt, fun i x hl' => by simpa using h.locdom i x hl', fun i j x c d hi hj hc' hd hn hn' => h.locinj i j x c d hi hj (key i c hc' hn).1 (key j d hd hn').1 hn hn', fun t x top' en' ho ht => ?_, fun t x ht => ?_, fun t t' x x' a1 a2 a3 a4 a5 => ?_, by simp [Ghost.frz], fun x hx => ?_, h.gl⟩⟩
  · simp only [Ghost.frz] at hf
    split at hf
    · rename_i he; subst he
      refine ⟨?_, h1 v (List.mem_iff_getElem?.2 ⟨o, hf⟩)⟩
      rw [cell_of_row _ _ _ vs T (0, 0) k3]
      rw [List.getElem?_take] at hf
      split at hf
      · simpa using hf
      · cases hf
    · exact h.fz x o v hf
  · obtain ⟨a1, a2⟩ := key i c hc' hn
    obtain ⟨b', T', vs', f1, f2, f3, f4, f5, f6⟩ := h.loc i c a1 hn
    exact ⟨b', T', vs', f1, f2, f3, f4.mono hle, f5, f6⟩
  · have hxb := hb i c hc' hn x hl'
    simp only [Ghost.frz]
    rw [if_neg hxb]
    exact h.locfz i x o c hl' (key i c hc' hn).1 hn
  · rcases htk t _ ho ht with ⟨rfl, he⟩ | ⟨ho', ht'⟩
    · injection he with e1 e2
      injection e2 with e2 e3
      subst e1; subst e2; subst e3
      refine ⟨k2, ⟨vs, T, k3, by omega⟩, fun o ho => ?_, fun i hi => ?_⟩
      · simp only [Ghost.frz, if_true]
        rw [List.getElem?_eq_none]
        omega
      · rw [List.getElem?_set]
        split
        · first | rfl | rw [if_pos hidlt]
        · rename_i hne2
          have hilt := h.locdom i x hi
          by_cases hz : σ.objs[i] = []
          · rw [List.getElem?_eq_getElem hilt, hz]
          · exact absurd (h.locinj i id x _ cells hi hl (List.getElem?_eq_getElem hilt) hc hz hne) (Ne.symm hne2)
    · obtain ⟨f1, f2, f3, f4⟩ := h.tok t x top' en' ho' ht'
      have hxb : x ≠ b := htok t _ ho' ht'
      refine ⟨f1, f2, fun o ho => ?_, fun i hi => ?_⟩
      · simp only [Ghost.frz]
        rw [if_neg hxb]
        exact f3 o ho
      · rw [List.getElem?_set]
        split
        · first | rfl | rw [if_pos hidlt]
        · exact f4 i hi
  · simp only [Ghost.frz] at ht
    split at ht
    · simp; omega
    · have := h.tokdom t x ht; simp; omega
  · rcases htk t x a1 a3 with ⟨e1, rfl⟩ | ⟨e1, e2⟩ <;> rcases htk t' x' a2 a4 with ⟨f1, rfl⟩ | ⟨f1, f2⟩
    · omega
    · exact absurd a5.symm (htok t' x' f1 f2)
    · exact absurd a5 (htok t x e1 e2)
    · exact h.tokinj t t' x x' e1 f1 e2 f2 a5
  · obtain ⟨f1, f2, f3, f4⟩ := h.lit x hx
    refine ⟨f1, f2, f3, fun t y ho ht => ?_⟩
    rcases htk t y ho ht with ⟨_, rfl⟩ | ⟨e1, e2⟩
    · exact fun he => f3 id (he ▸ hl)
    · exact f4 t y e1 e2
/-- The value of such a variable. -/
theorem frozen_rel {w0 : World} {G : Ghost} {w : World} {σ : St} (hI : Inv w0 G w σ) {id sz n : Nat} {v : Value} (hv : Rel G v (.vec id sz n)) {es : List AV} (hc : σ.objs[id]? = some (flat es)) (hn : n = es.length) (hz : ∀ e ∈ es, e.cells.length = sz) (hs : sz ≠ 0) :
    ∃ G', G.Le G' ∧ Inv w0 G' w ⟨σ.objs.set id [], σ.opn ++ [true], σ.gl⟩ ∧ Rel G' v (.sl (.own σ.opn.length) sz es) := by
  have hfl := flat_length hz
  cases hv with
  | vec0 A _ _ =>
    have hnil : es = [] := List.eq_nil_of_length_eq_zero hn.symm
    subst hnil
    obtain ⟨hle, hI'⟩ := (hI.kill id).closed .no
    exact ⟨_, hle, hI', .sl0 A 0 _ _ (Nat.zero_le _) (.inr ⟨rfl, Nat.lt_succ_self _⟩)⟩
  | vec _ _ _ c b h0 hc' hm hl hbs =>
    have hne : flat es ≠ [] := fun he => by
      have h2 : (flat es).length = 0 := by rw [he]; rfl
      rw [hfl] at h2
      rcases Nat.mul_eq_zero.1 h2 with h | h
      · omega
      · exact hs h
    obtain ⟨vs, k1, k2, hle, hI'⟩ := hI.freeze hc hl hne (flat es).length (c * sz) (Nat.le_refl _) hbs
    rw [List.take_length] at k1
    refine ⟨_, hle, hI', ?_⟩
    have key := Rel.mkSl (G := G.frz b vs σ.opn.length (flat es).length (c * sz)) (b := b) (o := 0) (c := c) (sz := sz) (t := .own σ.opn.length) (es := es) (news := vs) (by omega) hm hz (k1.mono hle) (fun j u hu => by
      simp only [Ghost.frz, if_true, Nat.zero_add]; exact hu) ⟨by simp [Ghost.frz], .inr (by simp only [Ghost.frz, if_true, Nat.zero_add]; rw [hfl])⟩
    rw [hn]
    exact key
section
variable {P : Program} {Ty : TypeId → Option TI} {n : Nat} {σ : St} {ops : Array Oper}
theorem AWP.frz0 {c : Code} {Q : AExit → (Nat → AV) → St → Prop} {l : List (Nat × AV)} (t : Nat) {id sz m : Nat} {es : List AV} (ht : Va.fm l t = .vec id sz m) (hc : σ.objs[id]? = some (flat es)) (hm : m = es.length) (hz : ∀ e ∈ es, e.cells.length = sz) (hs : sz ≠ 0)
    (h : AWP P n c Q (Va.fm ((t, .sl (.own σ.opn.length) sz es) :: l)) ⟨σ.objs.set id [], σ.opn ++ [true], σ.gl⟩) : AWP P n c Q (Va.fm l) σ := fun w0 G a w hS => by
  have hr := hS.frm t
  rw [ht] at hr
  obtain ⟨G', hle, hI, hv⟩ := frozen_rel hS.inv hr hc hm hz hs
  refine wp_mono (h w0 G' a w ⟨hI, fun u => ?_, hS.size, hS.defers⟩) ?_
  · simp only [Va.fm, upd]
    split
    · rename_i e; subst e; exact hv
    · exact (hS.frm u).mono hle
  · rintro e a' w' ⟨ae, fr', σ', G2, k1, k2, k3, k4⟩
    exact ⟨ae, fr', σ', G2, k1, hle.trans k2, k3, k4⟩
/-- Nil as a variable. -/
theorem AWP.vec0 {c : Code} {Q : AExit → (Nat → AV) → St → Prop} {l : List (Nat × AV)} (t sz : Nat) (ht : Va.fm l t = .nils ∨ Va.fm l t = .sl .full sz [])
    (h : AWP P n c Q (Va.fm ((t, .vec σ.objs.length sz 0) :: l)) ⟨σ.objs ++ [[]], σ.opn, σ.gl⟩) : AWP P n c Q (Va.fm l) σ := fun w0 G a w hS => by
  refine wp_mono (h w0 G a w ⟨hS.inv.addNone, fun u => ?_, hS.size, hS.defers⟩) (fun _ _ _ h => h)
  simp only [Va.fm, upd]
  split
  · rename_i e
    subst e
    have hr := hS.frm u
    rcases ht with ht | ht
    · rw [ht] at hr
      cases hv : a.tmps.getD u undef <;> rw [hv] at hr <;> cases hr
      exact .vec0 _ _ _
    · rw [ht] at hr
      generalize a.tmps.getD u undef = v at hr
      cases hr with
      | sl b o c t sz es val hc hm hz hf h ht => 
        have := ht.1
        simp at this
        subst this
        exact .vec0 _ _ _
      | sl0 A c t sz hm ht =>
        obtain rfl := (ht.resolve_left (by simp)).1
        exact .vec0 _ _ _
  · exact hS.frm u
end
theorem set_erase {α : Type} : ∀ (O : List α) (k : Nat), (O.eraseIdx k).Sublist O
  | [], _ => by simp
  | a :: O, 0 => by simp
  | a :: O, k + 1 => by simp only [List.eraseIdx_cons_succ]; exact (set_erase O k).cons_cons a
theorem mem_erase_dist {O : List (Nat × List AV)} (hd : O.Pairwise fun p q => p.1 ≠ q.1) : ∀ {k : Nat} {id : Nat} {c : List AV}, O[k]? = some (id, c) → ∀ p ∈ O.eraseIdx k, p.1 ≠ id := by
  induction hd with
  | nil => intro k id c h; simp at h
  | cons hh ht ih =>
    intro k id c h p hp
    cases k with
    | zero =>
      simp at h hp
      subst h
      exact Ne.symm (hh p hp)
    | succ k =>
      simp only [List.eraseIdx_cons_succ, List.mem_cons] at hp
      simp at h
      rcases hp with rfl | hp
      · exact hh _ (List.mem_of_getElem? h)
      · exact ih h p hp
/-- A new variable is not known any more; what it holds may be anything. -/
theorem Holds.gone {σ0 σ : St} {O : List (Nat × List AV)} {A : List Nat} (h : Holds σ0 O A σ) (k : Nat) {id : Nat} {c : List AV} (hk : O[k]? = some (id, c)) (hn : σ0.objs.length ≤ id) (c' : List AV) : Holds σ0 (O.eraseIdx k) A ⟨σ.objs.set id c', σ.opn, σ.gl⟩ := by
  have hsub := set_erase O k
  refine ⟨fun i d h1 h2 => ?_, h.opn, by simpa using h.olen, h.tlen, fun p hp => ?_, h.dist.sublist hsub, h.tok, h.tdist, h.gl⟩
  · have hi := (List.getElem?_eq_some_iff.1 h1).1
    simp only
    rw [List.getElem?_set_ne (by omega)]
    refine h.base i d h1 (fun p hp => ?_)
    by_cases hpi : p.1 = i
    · obtain ⟨j, hj⟩ := List.mem_iff_getElem?.1 hp
      by_cases hjk : j = k
      · subst hjk; rw [hk] at hj; cases hj; omega
      · refine h2 p (List.mem_eraseIdx_iff_getElem?.2 ⟨j, hjk, hj⟩)
    · exact hpi
  · simp only
    rw [List.getElem?_set_ne (Ne.symm (mem_erase_dist h.dist hk p hp))]
    exact h.obj p (hsub.subset hp)
/-- One is dropped wherever it stands. -/
theorem Holds.dropAt {σ0 σ : St} {O : List (Nat × List AV)} {A : List Nat} (h : Holds σ0 O A σ) (k : Nat) {id : Nat} {c : List AV} (hk : O[k]? = some (id, c)) (hn : σ0.objs.length ≤ id) : Holds σ0 (O.eraseIdx k) A σ := by
  have := h.gone k hk hn c
  have e : σ.objs.set id c = σ.objs := by
    obtain ⟨hlt, hg⟩ := List.getElem?_eq_some_iff.1 (h.at_ k hk)
    rw [← hg, List.set_getElem_self]
  rwa [e] at this
/-- A new variable has another name. -/
theorem Holds.renew {σ0 σ : St} {O : List (Nat × List AV)} {A : List Nat} (h : Holds σ0 O A σ) (k : Nat) {id : Nat} {c : List AV} (hk : O[k]? = some (id, c)) (hn : σ0.objs.length ≤ id) (c' : List AV) : Holds σ0 (O.set k (σ.objs.length, c')) A ⟨σ.objs.set id [] ++ [c'], σ.opn, σ.gl⟩ := by
  have h1 := (h.gone k hk hn []).add c'
  simp only [List.length_set] at h1
  have hkl : k < O.length := (List.getElem?_eq_some_iff.1 hk).1
  refine h1.pick (fun p hp => ?_) ?_ (fun p hp => ?_) (fun t ht => ht) h1.tdist
  · obtain ⟨j, hj⟩ := List.mem_iff_getElem?.1 hp
    by_cases hjk : k = j
    · subst hjk
      rw [List.getElem?_set_self hkl] at hj
      cases hj
      exact List.mem_cons_self
    · rw [List.getElem?_set_ne hjk] at hj
      exact List.mem_cons_of_mem _ (List.mem_eraseIdx_iff_getElem?.2 ⟨j, Ne.symm hjk, hj⟩)
  · have key : ∀ (i : Nat) (y : Nat × List AV), O[i]? = some y → σ.objs.length ≠ y.1 := fun i y hi => by
      have := (List.getElem?_eq_some_iff.1 (h.obj y (List.mem_of_getElem? hi))).1
      omega
    refine pairwise_set (fun a b h => Ne.symm h) k h.dist (fun y => ?_) (fun i y hi _ => key i y hi)
    by_cases hy : y ∈ O
    · obtain ⟨i, hi⟩ := List.mem_iff_getElem?.1 hy
      exact .inl (key i y hi)
    · exact .inr (.inr hy)
  · right
    rcases List.mem_cons.1 hp with rfl | hp
    · exact ⟨_, List.mem_iff_getElem?.2 ⟨k, by rw [List.getElem?_set_self hkl]⟩, rfl⟩
    · obtain ⟨j, hjk, hj⟩ := List.mem_eraseIdx_iff_getElem?.1 hp
      exact ⟨p, List.mem_iff_getElem?.2 ⟨j, by rw [List.getElem?_set_ne (Ne.symm hjk)]; exact hj⟩, rfl⟩
section
variable {P : Program} {Ty : TypeId → Option TI} {n : Nat} {σ : St} {ops : Array Oper} {σ0 : St} {O : List (Nat × List AV)} {A : List Nat} {fr : Nat → AV} {d : Option Tmp} {ty : TypeId} {pos : String} {af : Array Edge} {g : Option (Nat × Bool)} {ox oy oi : Operand} {T T' E U : TypeId} {α : Type} {e : α → AV} {sz : Nat}
theorem AWP.frz {c : Code} {Q : AExit → (Nat → AV) → St → Prop} {l : List (Nat × AV)} (hH : Holds σ0 O A σ) (k t : Nat) {id m : Nat} {x : List α} (hk : O[k]? = some (id, cL e x)) (hn : σ0.objs.length ≤ id) (he : Enc Ty E sz e) (ht : Va.fm l t = .vec id sz m) (hm : x.length = m)
    (h : ∀ tk τ, Holds σ0 (O.eraseIdx k) (tk :: A) τ → AWP P n c Q (Va.fm ((t, eT tk sz e x) :: l)) τ) : AWP P n c Q (Va.fm l) σ := by
  refine AWP.frz0 t (es := x.map e) ht (hH.at_ k hk) (by rw [List.length_map]; exact hm.symm) (fun y hy => by obtain ⟨z, _, rfl⟩ := List.mem_map.1 hy; exact he.len z) he.pos ?_
  exact h _ _ (hH.gone k hk hn []).more
theorem AWP.vecN {c : Code} {Q : AExit → (Nat → AV) → St → Prop} {l : List (Nat × AV)} (hH : Holds σ0 O A σ) (t sz : Nat) (ht : Va.fm l t = .nils ∨ Va.fm l t = .sl .full sz [])
    (h : ∀ id τ, Holds σ0 ((id, []) :: O) A τ → σ0.objs.length ≤ id → AWP P n c Q (Va.fm ((t, .vec id sz 0) :: l)) τ) : AWP P n c Q (Va.fm l) σ :=
  AWP.vec0 t sz ht (h _ _ (hH.add []) hH.olen)
theorem srcC_of {m : List α} {a : AV} (he : Enc Ty E sz e) (h : SrcOk Ty U sz σ a (m.map e)) (hn : ∀ id off k, a ≠ .msl id off k) : srcC Ty U sz σ a = some (m.length, cL e m) := by
  unfold SrcOk at h
  have gen : (srcOf Ty U sz σ a).map (fun ys => (ys.length, flat ys)) = some (m.length, cL e m) := by rw [h]; simp [cL]
  cases a with
  | msl id off k => exact absurd rfl (hn id off k)
  | vec id z k => simp [srcOf] at h
  | vc id z o k c => simp [srcOf] at h
  | _ => exact gen
/-- What is appended to a variable. -/
def SrcV (Ty : TypeId → Option TI) (U : TypeId) (sz : Nat) (σ : St) (a : AV) (n : Nat) (cs : List AV) : Prop := srcC Ty U sz σ a = some (n, cs)
theorem srv_l {k : Tok} {l : List α} {a : AV} (he : Enc Ty E sz e) (hd : tdOf Ty U = .slice E) (hx : a = .sl k sz (l.map e)) : SrcV Ty U sz σ a l.length (cL e l) :=
  srcC_of he (src_l hd hx) (fun _ _ _ => by rw [hx]; simp)
theorem srv_nil {a : AV} (he : Enc Ty E sz e) (hd : tdOf Ty U = .slice E) (hx : a = .nils) : SrcV Ty U sz σ a ([] : List α).length (cL e []) :=
  srcC_of he (src_nil hd hx) (fun _ _ _ => by rw [hx]; simp)
theorem srv_s {l : List (BitVec 8)} {a : AV} (he : Enc Ty E 1 (eU .u8 (w := 8))) (hd : tdOf Ty U = .str) (hx : a = eS l) : SrcV Ty U 1 σ a l.length (cL (eU .u8) l) :=
  srcC_of he (src_s hd hx) (fun _ _ _ => by rw [hx]; simp [eS])
theorem srv_arr (hH : Holds σ0 O A σ) (k : Nat) {id m : Nat} {l : List α} {a : AV} (hk : O[k]? = some (id, cL e l)) (he : Enc Ty E sz e) (hd : tdOf Ty U = .slice E) (hl : l.length = m) (hx : a = .msl id 0 m) : SrcV Ty U sz σ a l.length (cL e l) := by
  subst hx
  have hlen := cL_length he.len l
  simp only [SrcV, srcC, partOf, hd, hH.at_ k hk]
  rw [if_pos (by rw [hlen, hl]; omega), List.drop_zero, List.take_of_length_le (by rw [hlen, hl]; exact Nat.le_refl _), hl]
theorem cL_append (l m : List α) : cL e (l ++ m) = cL e l ++ cL e m := by simp [cL, flat_append]
theorem h_appV (hT : TyOk P Ty) (hH : Holds σ0 O A σ) (k : Nat) {i : TI} {id q : Nat} {l m z : List α} (h : app i.bytes l m = some z) (hk : O[k]? = some (id, cL e l)) (hn : σ0.objs.length ≤ id) (he : Enc Ty E sz e) (hd : tdOf Ty T = .slice E) (hi : Ty E = some i) (hsz : i.sz = sz) (hb : 0 < i.bytes) (hx : aeval fr ox = .vec id sz q) (hq : l.length = q) (hs : SrcV Ty U sz σ (aeval fr oy) m.length (cL e m)) :
    ∃ b τ, OpS P ⟨d, .call ⟨.builtin .append, #[ox, oy], #[T, U]⟩, ty, pos, af, g⟩ fr σ (fun a' τ' => a' = (fun b => AV.vec b sz z.length) b ∧ τ' = τ) ∧ (Holds σ0 (O.set k (b, cL e z)) A τ ∧ σ0.objs.length ≤ b) := by
  obtain ⟨h1, rfl⟩ := app_some h
  subst hq
  refine ⟨_, _, OpS.of_aop2 hT rfl (aeval fr) (fun x _ => Wk.refl _) (a := .vec σ.objs.length sz (l.length + m.length)) (σ' := ⟨σ.objs.set id [] ++ [cL e l ++ cL e m], σ.opn, σ.gl⟩) ?_ (.of_eq (by rw [List.length_append])), ?_⟩
  · unfold SrcV at hs
    simp only [aop2, hx, aappendV, hd, hi, hH.at_ k hk]
    rw [hsz, hs]
    simp only
    rw [if_pos ⟨trivial, Nat.pos_of_ne_zero he.pos, cL_length he.len l, hb, h1⟩]
  · rw [← cL_append]
    exact ⟨hH.renew k hk hn _, hH.olen⟩
theorem wk_vec0n (id sz : Nat) : Wk .nils (.vec id sz 0) := fun G v h => by cases h; exact .vec0 _ _ _
theorem wk_vec0f (id sz : Nat) : Wk (.sl .full sz []) (.vec id sz 0) := fun G v hr => by
  cases hr with
  | sl b o c t sz es val hc hm hz hf h ht => 
    have := ht.1
    simp at this
    subst this
    exact .vec0 _ _ _
  | sl0 A c t sz hm ht =>
    obtain rfl := (ht.resolve_left (by simp)).1
    exact .vec0 _ _ _
/-- Behind a state with one more variable that is nowhere. -/
theorem OpS.addNone {o : Oper} {K : AV → St → Prop} (h : OpS P o fr ⟨σ.objs ++ [[]], σ.opn, σ.gl⟩ K) : OpS P o fr σ K :=
  fun w0 G act w Q K' hI hr hK => h w0 G act w Q K' hI.addNone hr hK
theorem SrcV.addNone {a : AV} {m : Nat} {cs : List AV} (h : SrcV Ty U sz σ a m cs) : SrcV Ty U sz ⟨σ.objs ++ [[]], σ.opn, σ.gl⟩ a m cs := by
  have key : ∀ id off k (r : Nat × List AV), partOf Ty U sz id off k σ = some r → partOf Ty U sz id off k ⟨σ.objs ++ [[]], σ.opn, σ.gl⟩ = some r := by
    intro id off k r hr
    unfold partOf at hr ⊢
    split at hr
    case h_2 => cases hr
    rename_i e cells hd hc
    simp only [hd]
    rw [List.getElem?_append_left (List.getElem?_eq_some_iff.1 hc).1, hc]
    exact hr
  unfold SrcV at *
  cases a with
  | msl id off k => exact key id off k _ h
  | vec id z k =>
    simp only [srcC] at h ⊢
    split at h
    · rename_i hz; rw [if_pos hz]; exact key id 0 k _ h
    · cases h
  | vc id z o k c =>
    simp only [srcC] at h ⊢
    split at h
    · rename_i hz; rw [if_pos hz]; exact key id o k _ h
    · cases h
  | _ => exact h
theorem h_appV0 (hT : TyOk P Ty) (hH : Holds σ0 O A σ) {i : TI} {m z : List α} (h : app i.bytes ([] : List α) m = some z) (he : Enc Ty E sz e) (hd : tdOf Ty T = .slice E) (hi : Ty E = some i) (hsz : i.sz = sz) (hb : 0 < i.bytes) (hne : oy ≠ ox) (hx : aeval fr ox = .nils ∨ aeval fr ox = .sl .full sz []) (hs : SrcV Ty U sz σ (aeval fr oy) m.length (cL e m)) :
    ∃ b τ, OpS P ⟨d, .call ⟨.builtin .append, #[ox, oy], #[T, U]⟩, ty, pos, af, g⟩ fr σ (fun a' τ' => a' = (fun b => AV.vec b sz z.length) b ∧ τ' = τ) ∧ (Holds σ0 ((b, cL e z) :: O) A τ ∧ σ0.objs.length ≤ b) := by
  obtain ⟨h1, hzm⟩ := app_some h
  obtain rfl : z = m := hzm
  have hw : Wk (aeval fr ox) (.vec σ.objs.length sz 0) := by
    rcases hx with hx | hx <;> rw [hx]
    · exact wk_vec0n _ _
    · exact wk_vec0f _ _
  have hs' := hs.addNone
  unfold SrcV at hs'
  classical
  refine ⟨_, _, OpS.addNone (OpS.of_aop2 hT rfl (fun x => if x = ox then .vec σ.objs.length sz 0 else aeval fr x) (fun x _ => ?_) (a := .vec (σ.objs.length + 1) sz (0 + z.length)) (b := .vec (σ.objs.length + 1) sz z.length) (σ' := ⟨(σ.objs ++ [[]]).set σ.objs.length [] ++ [[] ++ cL e z], σ.opn, σ.gl⟩) ?_ (.of_eq (by simp))), ?_⟩
  · split
    · rename_i he; subst he; exact hw
    · exact Wk.refl _
  · simp only [aop2, if_true, if_neg hne, aappendV, hd, hi]
    rw [show (σ.objs ++ [[]])[σ.objs.length]? = some [] by simp]
    simp only
    rw [hsz, hs']
    simp only
    rw [if_pos ⟨trivial, Nat.pos_of_ne_zero he.pos, by simp, hb, by simpa using h1⟩]
    simp
  · have h2 := (hH.add []).renew 0 rfl hH.olen ([] ++ cL e z)
    simp only [List.length_append, List.length_cons, List.length_nil, Nat.zero_add, List.set_cons_zero] at h2
    refine ⟨?_, by have := hH.olen; omega⟩
    simpa using h2
/-- An element's address. -/
theorem o_vecx (hT : TyOk P Ty) {m id : Nat} {kk : IntKind} {i : Int} {u : Unit} (h : chk m i = some u) (hd : tdOf Ty T = .slice E) (hz : szOf Ty E = sz) (hs : sz ≠ 0) (hx : aeval fr ox = .vec id sz m) (hi : aeval fr oi = .int kk i) : OpP P ⟨d, .indexAddr T ox oi, ty, pos, af, g⟩ fr (.ref id (0 + i.toNat * sz + 0)) := fun τ => by
  refine OpS.of_aop2 hT rfl (aeval fr) (fun x _ => Wk.refl _) (a := .ref id (0 + i.toNat * sz)) ?_ (Wk.refl _)
  simp only [aop2, hx, hi, aindexAddr2, hd]
  rw [if_pos ⟨(chk_some h).1, (chk_some h).2, hz.symm, hs⟩]
  rfl
theorem o_vlen (hT : TyOk P Ty) {m id : Nat} (hd : tdOf Ty T = .slice E) (hx : aeval fr ox = .vec id sz m) : OpP P ⟨d, .call ⟨.builtin .len, #[ox], #[T]⟩, ty, pos, af, g⟩ fr (eI (m : Int)) := fun τ => by
  refine OpS.of_aop2 hT rfl (aeval fr) (fun x _ => Wk.refl _) (a := .int .i64 m) ?_ (Wk.refl _)
  simp only [aop2, hx, alen2, hd]
  rfl
theorem updA_len {m : Nat} {l c : List α} {i : Int} {f : α → α} (h : updA m l i f = some c) : c.length = l.length := by
  obtain ⟨x, _, rfl⟩ := updA_some h
  simp
/-- As many things as are asked for, all noughts. -/
def mkS {α : Type} (b : Nat) (m : Int) (z : α) : Option (List α) := if 0 ≤ m ∧ (b : Int) * m ≤ 281474976710656 ∧ m ≤ 9223372036854775807 then some (List.replicate m.toNat z) else none
/-- make: noughts that never change. -/
theorem h_make (hT : TyOk P Ty) (hH : Holds σ0 O A σ) {i : TI} {z : α} {x : List α} {m : Int} {k k' : IntKind} (h : mkS i.bytes m z = some x) (hd : tdOf Ty T = .slice E) (hi : Ty E = some i) (hsz : i.sz = sz) (hz : i.zero = e z) (hx : aeval fr ox = .int k m) (hy : aeval fr oy = .int k' m) :
    ∃ t τ, OpS P ⟨d, .makeSlice T ox oy, ty, pos, af, g⟩ fr σ (fun a' τ' => a' = (fun t => eT t sz e x) t ∧ τ' = τ) ∧ Holds σ0 O (t :: A) τ := by
  unfold mkS at h
  split at h
  case isFalse => cases h
  rename_i hc
  cases h
  refine ⟨_, _, OpS.of_aop hT (mu := false) rfl (aeval fr) (fun x _ => Wk.refl _) (a := .sl (.own σ.opn.length) i.sz (List.replicate m.toNat i.zero)) (σ' := σ.more) ?_ (.of_eq (by rw [hsz, hz]; simp [eT])), hH.more⟩
  simp only [aop, hx, hy, amake, hd, hi]
  rw [if_pos ⟨hc.1, Int.le_refl _, hc.2.1, hc.2.2⟩]
  rfl
theorem h_makeV (hT : TyOk P Ty) (hH : Holds σ0 O A σ) {i : TI} {z : α} {x : List α} {m : Int} {k k' : IntKind} (h : mkS i.bytes m z = some x) (hd : tdOf Ty T = .slice E) (hi : Ty E = some i) (hsz : i.sz = sz) (hz : i.zero = e z) (hx : aeval fr ox = .int k m) (hy : aeval fr oy = .int k' m) :
    ∃ b τ, OpS P ⟨d, .makeSlice T ox oy, ty, pos, af, g⟩ fr σ (fun a' τ' => a' = (fun b => AV.vec b sz x.length) b ∧ τ' = τ) ∧ (Holds σ0 ((b, cL e x) :: O) A τ ∧ σ0.objs.length ≤ b) := by
  unfold mkS at h
  split at h
  case isFalse => cases h
  rename_i hc
  cases h
  have e1 : cL e (List.replicate m.toNat z) = flat (List.replicate m.toNat i.zero) := by rw [hz]; simp [cL]
  refine ⟨_, _, OpS.of_aop2 hT rfl (aeval fr) (fun x _ => Wk.refl _) (a := .vec σ.objs.length i.sz m.toNat) (σ' := ⟨σ.objs ++ [flat (List.replicate m.toNat i.zero)], σ.opn, σ.gl⟩) ?_ (.of_eq (by rw [hsz]; simp)), by rw [e1]; exact hH.add _, hH.olen⟩
  simp only [aop2, hx, hy, amake2, hd, hi]
  rw [if_pos ⟨hc.1, Int.le_refl _, by omega, hc.2.1, hc.2.2⟩]
theorem wk_vec00 (i j sz : Nat) : Wk (.vec i sz 0) (.vec j sz 0) := fun G v h => by
  cases h with
  | vec0 A _ _ => exact .vec0 _ _ _
  | vec _ _ _ _ _ h0 => exact absurd h0 (Nat.lt_irrefl 0)
/-- The names behind a call that hands back a new variable. -/
theorem kept_new {σ' : St} {id : Nat} {c : List AV} (hid : σ.objs.length ≤ id) (hH : Holds σ [(id, c)] [] σ') (hc : ∀ ρ κ, cutL ρ κ c = c) : Kept σ σ' ⟨σ.objs ++ [c], σ.opn, σ.gl⟩ (fun i => if i = id then some σ.objs.length else idl σ.objs.length i) (idl σ.opn.length) := by
  refine ⟨fun i i' j h1 h2 => ?_, idl_inj _, fun i hi => ?_, fun i hi => by simp [idl, hi], fun i j h => ?_, fun t u h => (idl_lt h).2, Nat.le_refl _, rfl, fun j d hj => ?_, fun t u h hu => ?_⟩
  · try simp only at h1 h2
    split at h1 <;> split at h2
    · rename_i e1 e2; rw [e1, e2]
    · have := (idl_lt h2).2; cases h1; omega
    · have := (idl_lt h1).2; cases h2; omega
    · exact idl_inj _ _ _ _ h1 h2
  · try simp only
    rw [if_neg (by omega)]
    simp [idl, hi]
  · try simp only at h
    split at h
    · cases h; simp
    · have := (idl_lt h).2; simp; omega
  · by_cases hlt : j < σ.objs.length
    · simp only at hj
      rw [List.getElem?_append_left hlt] at hj
      refine ⟨j, d, by rw [if_neg (by omega)]; simp [idl, hlt], hH.base j d hj (fun p hp => ?_), .inl ⟨hj, rfl⟩⟩
      simp at hp
      subst hp
      simp only
      omega
    · have hj2 := (List.getElem?_eq_some_iff.1 hj).1
      simp at hj2
      have : j = σ.objs.length := by omega
      subst this
      simp at hj
      subst hj
      exact ⟨id, c, by simp, hH.obj (id, c) (by simp), .inr (hc _ _).symm⟩
  · obtain ⟨rfl, _⟩ := idl_lt h
    exact hH.opn t hu
theorem cut_vec {ρ κ : Nat → Option Nat} {id j q : Nat} (h : ρ id = some j) : Wk (cutAV ρ κ (.vec id sz q)) (.vec j sz q) := by
  simp only [cutAV]
  split
  · rename_i h0; subst h0; exact wk_vec00 _ _ _
  · rw [h]; exact Wk.refl _
/-- A function that hands back a slice that is a variable. -/
theorem ACall.vec {gg : FuncId} {args : List AV} {q : Nat} {c : List AV} (hc : ∀ ρ κ, cutL ρ κ c = c) (h : ACall P gg args σ (fun a σ' => ∃ id, a = .vec id sz q ∧ σ.objs.length ≤ id ∧ Holds σ [(id, c)] [] σ')) : ACall P gg args σ (fun a σ' => a = .vec σ.objs.length sz q ∧ σ' = ⟨σ.objs ++ [c], σ.opn, σ.gl⟩) :=
  h.ren fun a σ' ⟨id, ha, hid, hH⟩ => by
    subst ha
    exact ⟨_, .vec σ.objs.length sz q, _, _, kept_new hid hH hc, cut_vec (by simp), rfl, rfl⟩
/-- The same, and more. -/
theorem ACall.vecs {gg : FuncId} {args : List AV} {q : Nat} {c rest : List AV} (hc : ∀ ρ κ, cutL ρ κ c = c) (hr : ∀ ρ κ, cutL ρ κ rest = rest) (h : ACall P gg args σ (fun a σ' => ∃ id, a = .tup (.vec id sz q :: rest) ∧ σ.objs.length ≤ id ∧ Holds σ [(id, c)] [] σ')) : ACall P gg args σ (fun a σ' => a = .tup (.vec σ.objs.length sz q :: rest) ∧ σ' = ⟨σ.objs ++ [c], σ.opn, σ.gl⟩) :=
  h.ren fun a σ' ⟨id, ha, hid, hH⟩ => by
    subst ha
    refine ⟨_, .tup (.vec σ.objs.length sz q :: rest), _, _, kept_new hid hH hc, ?_, rfl, rfl⟩
    simp only [cutAV, cutL, hr]
    refine wk_tup (.cons ?_ (WkL.refl _))
    have := cut_vec (sz := sz) (q := q) (ρ := fun i => if i = id then some σ.objs.length else idl σ.objs.length i) (κ := idl σ.opn.length) (id := id) (j := σ.objs.length) (by simp)
    simpa only [cutAV] using this
theorem h_callv (hH : Holds σ0 O A σ) {o : Oper} {f : Operand} {xs : List Operand} {gg : FuncId} {first cap args : List AV} {q : Nat} (c : List AV) (hc : callOf o = some (f, xs)) (hf : aeval fr f = .fn (.func gg) first cap) (hargs : WkL (first ++ xs.map (aeval fr) ++ cap) args)
    (hcall : ACall P gg args σ (fun a τ => a = .vec σ.objs.length sz q ∧ τ = ⟨σ.objs ++ [c], σ.opn, σ.gl⟩)) : ∃ id τ, OpS P o fr σ (fun a' τ' => a' = .vec id sz q ∧ τ' = τ) ∧ (Holds σ0 ((id, c) :: O) A τ ∧ σ0.objs.length ≤ id) :=
  ⟨_, _, OpS.of_call hc hf hargs hcall, hH.add c, hH.olen⟩
theorem h_callvs (hH : Holds σ0 O A σ) {o : Oper} {f : Operand} {xs : List Operand} {gg : FuncId} {first cap args rest : List AV} {q : Nat} (c : List AV) (hc : callOf o = some (f, xs)) (hf : aeval fr f = .fn (.func gg) first cap) (hargs : WkL (first ++ xs.map (aeval fr) ++ cap) args)
    (hcall : ACall P gg args σ (fun a τ => a = .tup (.vec σ.objs.length sz q :: rest) ∧ τ = ⟨σ.objs ++ [c], σ.opn, σ.gl⟩)) : ∃ id τ, OpS P o fr σ (fun a' τ' => a' = .tup (.vec id sz q :: rest) ∧ τ' = τ) ∧ (Holds σ0 ((id, c) :: O) A τ ∧ σ0.objs.length ≤ id) :=
  ⟨_, _, OpS.of_call hc hf hargs hcall, hH.add c, hH.olen⟩
end
end Go.Va
namespace Go.Va
open Go Go.RowKit
set_option linter.unusedVariables false
set_option linter.unusedSimpArgs false
/-- slices.Delete, where there is something. -/
def delO {α : Type} (l : List α) (i j : Int) : Option (List α) := if 0 ≤ i ∧ i ≤ j ∧ j ≤ l.length ∧ i < l.length then some (l.take i.toNat ++ l.drop j.toNat) else none
theorem delO_some {α : Type} {l r : List α} {i j : Int} (h : delO l i j = some r) : ∃ a b : Nat, i = a ∧ j = b ∧ a ≤ b ∧ b ≤ l.length ∧ a < l.length ∧ r = l.take a ++ l.drop b := by
  unfold delO at h
  split at h
  case isFalse => cases h
  rename_i hc
  cases h
  exact ⟨i.toNat, j.toNat, by omega, by omega, by omega, by omega, by omega, rfl⟩
section
variable {P : Program} {Ty : TypeId → Option TI} {n : Nat} {σ : St} {ops : Array Oper} {fr : Nat → AV} {d : Option Tmp} {ty : TypeId} {pos : String} {af : Array Edge} {g : Option (Nat × Bool)} {ox oy oi : Operand} {T T' E U : TypeId} {α : Type} {e : α → AV} {sz id off m cap : Nat}
theorem o_vclen (hT : TyOk P Ty) (hd : tdOf Ty T = .slice E) (hx : aeval fr ox = .vc id sz off m cap) : OpP P ⟨d, .call ⟨.builtin .len, #[ox], #[T]⟩, ty, pos, af, g⟩ fr (eI (m : Int)) := fun τ => by
  refine OpS.of_aop2 hT rfl (aeval fr) (fun x _ => Wk.refl _) (a := .int .i64 m) ?_ (Wk.refl _)
  simp only [aop2, hx, alen2, hd]
  rfl
theorem o_vcs (hT : TyOk P Ty) {lo hi mx : Option Operand} (l h k : Nat) (hd : tdOf Ty T = .slice E) (hz : szOf Ty E = sz) (hs : sz ≠ 0) (hx : aeval fr ox = .vc id sz off m cap) (h1 : abnd 0 (lo.map (aeval fr)) = some l) (h2 : abnd m (hi.map (aeval fr)) = some h) (h3 : abnd cap (mx.map (aeval fr)) = some k) (hk : (mx.map (aeval fr)).isSome = true → (hi.map (aeval fr)).isSome = true) (hlh : l ≤ h) (hhk : h ≤ k) (hkc : k ≤ cap) :
    OpP P ⟨d, .slice T ox lo hi mx, ty, pos, af, g⟩ fr (.vc id sz (if k = l then off else off + l * sz) (h - l) (k - l)) := fun τ => by
  refine OpS.of_aop2 hT rfl (aeval fr) (fun x _ => Wk.refl _) (a := .vc id sz (if k = l then off else off + l * sz) (h - l) (k - l)) ?_ (Wk.refl _)
  simp only [aop2, hx, aslice2, hd, h1, h2, h3]
  rw [if_pos ⟨hk, hlh, hhk, hkc, hz.symm, hs⟩]
  rfl
theorem o_vcs0 (hT : TyOk P Ty) {hi : Operand} (h : Nat) (hd : tdOf Ty T = .slice E) (hz : szOf Ty E = sz) (hs : sz ≠ 0) (hx : aeval fr ox = .vc id sz off m cap) (h2 : aeval fr hi = eI (h : Int)) (hhk : h ≤ cap) :
    OpP P ⟨d, .slice T ox none (some hi) none, ty, pos, af, g⟩ fr (.vc id sz off h cap) := by
  have := o_vcs (P := P) (d := d) (ty := ty) (pos := pos) (af := af) (g := g) hT (lo := none) (hi := some hi) (mx := none) 0 h cap hd hz hs hx rfl (by rw [Option.map_some, h2]; simp [abnd, eI]) rfl (fun h => by cases h) (Nat.zero_le _) hhk (Nat.le_refl _)
  have e : (if cap = 0 then off else off + 0 * sz) = off := by split <;> simp
  rw [e] at this
  simpa using this
theorem o_vcapp (hT : TyOk P Ty) {i : TI} {cells ys : List AV} {k : Nat} (hc : σ.objs[id]? = some cells) (hne : cells ≠ []) (hd : tdOf Ty T = .slice E) (hi : Ty E = some i) (hsz : i.sz = sz) (hx : aeval fr ox = .vc id sz off m cap) (hs : srcC Ty U sz σ (aeval fr oy) = some (k, ys)) (hfit : m + k ≤ cap) (hle : off + m * sz ≤ cells.length) :
    OpS P ⟨d, .call ⟨.builtin .append, #[ox, oy], #[T, U]⟩, ty, pos, af, g⟩ fr σ (fun a τ => a = .vc id sz off (m + k) cap ∧ τ = ⟨σ.objs.set id (cells.take (off + m * sz) ++ ys ++ cells.drop (off + m * sz + ys.length)), σ.opn, σ.gl⟩) := by
  refine OpS.of_aop2 hT rfl (aeval fr) (fun x _ => Wk.refl _) (a := .vc id sz off (m + k) cap) ?_ (Wk.refl _)
  simp only [aop2, hx, aappendC, hd, hi, hc]
  rw [hsz, hs]
  simp only
  rw [if_pos ⟨trivial, hfit, hle, by cases cells with | nil => exact absurd rfl hne | cons _ _ => rfl⟩]
theorem o_vcclear (hT : TyOk P Ty) {i : TI} {cells : List AV} (hc : σ.objs[id]? = some cells) (hne : cells ≠ []) (hd : tdOf Ty T = .slice E) (hi : Ty E = some i) (hsz : i.sz = sz) (hx : aeval fr ox = .vc id sz off m cap) (hle : off ≤ cells.length) :
    OpS P ⟨d, .call ⟨.builtin .clear, #[ox], #[T]⟩, ty, pos, af, g⟩ fr σ (fun a τ => a = .tup [] ∧ τ = ⟨σ.objs.set id (cells.take off ++ flat (List.replicate m i.zero) ++ cells.drop (off + (flat (List.replicate m i.zero)).length)), σ.opn, σ.gl⟩) := by
  refine OpS.of_aop2 hT rfl (aeval fr) (fun x _ => Wk.refl _) (a := .tup []) ?_ (Wk.refl _)
  simp only [aop2, hx, aclear, hd, hi, hc]
  rw [if_pos ⟨hsz, hle, by cases cells with | nil => exact absurd rfl hne | cons _ _ => rfl⟩]
theorem srcC_vc {cells : List AV} (hd : tdOf Ty U = .slice E) (hc : σ.objs[id]? = some cells) (hle : off + m * sz ≤ cells.length) : srcC Ty U sz σ (.vc id sz off m cap) = some (m, (cells.drop off).take (m * sz)) := by
  simp only [srcC, if_true, partOf, hd, hc]
  rw [if_pos hle]
/-- A slice that is a variable: its room is as it is. -/
theorem ACall.room {gg : FuncId} {rest : List AV} {K : AV → St → Prop} (h0 : 0 < m) (h : ∀ c, m ≤ c → ACall P gg (.vc id sz 0 m c :: rest) σ K) : ACall P gg (.vec id sz m :: rest) σ K := by
  refine ⟨(h m (Nat.le_refl _)).1, fun w0 G w vs hI hr => ?_⟩
  have hl := hr.len
  cases hv : vs.toList with
  | nil => rw [hv] at hl; simp at hl
  | cons v vs' =>
    rw [hv] at hr
    have h1 := hr.at_ 0 v _ rfl rfl
    cases h1 with
    | vec0 A _ _ => omega
    | vec _ _ _ c b h0 hc hm hl hs =>
      refine (h c hc).2 w0 G w vs hI ?_
      rw [hv]
      refine RelL.cons (.vc id sz 0 m c b hc hm hl (by omega)) ⟨by simpa using hr.len, fun i u a e1 e2 => hr.at_ (i + 1) u a (by simpa using e1) (by simpa using e2)⟩
/-- What is left of a variable is a slice that never changes. -/
theorem ACall.freeze {gg : FuncId} {args : List AV} {r : List α} {c : Nat} (he : Enc Ty E sz e) (hc : ∀ cells, σ.objs[id]? = some cells → True) (h : ACall P gg args σ (fun a τ => a = .vc id sz 0 r.length c ∧ ∃ cells, cells ≠ [] ∧ cells.take (r.length * sz) = cL e r ∧ id < σ.objs.length ∧ τ = ⟨σ.objs.set id cells, σ.opn, σ.gl⟩)) :
    ACall P gg args σ (fun a τ => a = .sl (.own σ.opn.length) sz (r.map e) ∧ τ = ⟨σ.objs.set id [], σ.opn ++ [true], σ.gl⟩) := by
  refine ⟨h.1, fun w0 G w vs hI hr => (h.2 w0 G w vs hI hr).mono ?_⟩
  rintro e' w' ⟨v, a, σ', G', rfl, h1, h2, h3, rfl, cells, hne, htk, hid, rfl⟩
  have hcell : (σ.objs.set id cells)[id]? = some cells := by rw [List.getElem?_set]; simp [hid]
  have hlen : r.length * sz ≤ cells.length := by
    have := congrArg List.length htk
    rw [cL_length he.len, List.length_take] at this
    omega
  cases h3 with
  | vc _ _ _ _ _ b hcc hm hl hs =>
    obtain ⟨vs, k1, k2, hle, hI'⟩ := h2.freeze hcell hl hne (r.length * sz) (c * sz) hlen (by omega)
    rw [htk] at k1
    have hz : ∀ y ∈ r.map e, y.cells.length = sz := fun y hy => by obtain ⟨z, _, rfl⟩ := List.mem_map.1 hy; exact he.len z
    refine ⟨_, .sl (.own σ.opn.length) sz (r.map e), _, _, rfl, h1.trans hle, ?_, ?_, rfl, rfl⟩
    · have e2 : (σ.objs.set id cells).set id [] = σ.objs.set id [] := by rw [List.set_set]
      rw [← e2]
      exact hI'
    · have key := Rel.mkSl (G := G'.frz b vs σ.opn.length (r.length * sz) (c * sz)) (b := b) (o := 0) (c := c) (sz := sz) (t := .own σ.opn.length) (es := r.map e) (news := vs) (by simpa using hcc) hm hz (k1.mono hle) (fun j u hu => by
        simp only [Ghost.frz, if_true, Nat.zero_add]; exact hu) ⟨by simp [Ghost.frz], .inr (by simp [Ghost.frz])⟩
      rw [List.length_map] at key
      exact key
theorem cL_take (he : ∀ x, (e x).cells.length = sz) (l : List α) (a : Nat) : (cL e l).take (a * sz) = cL e (l.take a) := by
  by_cases h : a ≤ l.length
  · have e1 : cL e l = cL e (l.take a) ++ cL e (l.drop a) := by rw [← cL_append, List.take_append_drop]
    rw [e1, List.take_left' (by rw [cL_length he, List.length_take, Nat.min_eq_left h])]
  · rw [List.take_of_length_le (by rw [cL_length he]; exact Nat.mul_le_mul_right _ (by omega)), List.take_of_length_le (by omega)]
theorem cL_drop (he : ∀ x, (e x).cells.length = sz) (l : List α) (a : Nat) : (cL e l).drop (a * sz) = cL e (l.drop a) := by
  by_cases h : a ≤ l.length
  · have e1 : cL e l = cL e (l.take a) ++ cL e (l.drop a) := by rw [← cL_append, List.take_append_drop]
    rw [e1, List.drop_left' (by rw [cL_length he, List.length_take, Nat.min_eq_left h])]
  · rw [List.drop_of_length_le (by rw [cL_length he]; exact Nat.mul_le_mul_right _ (by omega)), List.drop_of_length_le (by omega)]; rfl
/-- A call of slices.Delete of a new variable. -/
theorem h_calld {σ0 : St} {O : List (Nat × List AV)} {A : List Nat} (hH : Holds σ0 O A σ) (k : Nat) {c : List AV} (hk : O[k]? = some (id, c)) (hn : σ0.objs.length ≤ id) {o : Oper} {f : Operand} {xs : List Operand} {gg : FuncId} {first cap' args es : List AV} (hc : callOf o = some (f, xs)) (hf : aeval fr f = .fn (.func gg) first cap') (hargs : WkL (first ++ xs.map (aeval fr) ++ cap') args)
    (hcall : ACall P gg args σ (fun a τ => a = .sl (.own σ.opn.length) sz es ∧ τ = ⟨σ.objs.set id [], σ.opn ++ [true], σ.gl⟩)) : ∃ t τ, OpS P o fr σ (fun a' τ' => a' = .sl (.own t) sz es ∧ τ' = τ) ∧ Holds σ0 (O.eraseIdx k) (t :: A) τ :=
  ⟨_, _, OpS.of_call hc hf hargs hcall, (hH.gone k hk hn []).more⟩
end
end Go.Va
namespace Go.Va
theorem abnd_nat (d k : Nat) : abnd d (some (eI (k : Int))) = some k := by simp [abnd, eI]
end Go.Va
namespace Go.Va
/-- copy into an array. -/
def cpV {α : Type} {n : Nat} (v : Vector α n) (l : List α) : Option (Vector α n) := if h : l.length ≤ n then some ⟨(l ++ v.toList.drop l.length).toArray, by simp; omega⟩ else none
theorem cpV_some {α : Type} {n : Nat} {v v' : Vector α n} {l : List α} (h : cpV v l = some v') : l.length ≤ n ∧ v'.toList = l ++ v.toList.drop l.length := by
  unfold cpV at h
  split at h
  · rename_i hl; cases h; exact ⟨hl, by simp [Vector.toList]⟩
  · cases h
section
variable {P : Program} {Ty : TypeId → Option TI} {σ σ0 : St} {O : List (Nat × List AV)} {A' : List Nat} {ops : Array Oper} {fr : Nat → AV} {d : Option Tmp} {ty : TypeId} {pos : String} {af : Array Edge} {g : Option (Nat × Bool)} {ox oy oi : Operand} {T T' E U : TypeId} {α : Type} {e : α → AV} {sz id m cap : Nat}
theorem h_cpb (hT : TyOk P Ty) (hH : Holds σ0 O A' σ) (k : Nat) {ti : TI} {id n base : Nat} {A B c c' : List AV} {v v' : Vector α n} {l : List α} (h : cpV v l = some v') (hk : O[k]? = some (id, c)) (hc : c = A ++ (cL e v.toList ++ B)) (hc' : c' = A ++ (cL e v'.toList ++ B)) (hA : A.length = base) (hn0 : n ≠ 0) (he : Enc Ty E sz e) (hd : tdOf Ty T = .slice E) (hi : Ty E = some ti) (hsz : ti.sz = sz) (hx : aeval fr ox = .msl id base n) (hs : SrcV Ty U sz σ (aeval fr oy) l.length (cL e l)) :
    ∃ (_ : Nat) (τ : St), OpS P ⟨d, .call ⟨.builtin .copy, #[ox, oy], #[T, U]⟩, ty, pos, af, g⟩ fr σ (fun a' τ' => a' = (fun _ => eI (l.length : Int)) 0 ∧ τ' = τ) ∧ Holds σ0 (O.set k (id, c')) A' τ := by
  obtain ⟨hl, hv'⟩ := cpV_some h
  have hvl := cL_length he.len v.toList
  have hvn : v.toList.length = n := by simp
  rw [hvn] at hvl
  have hll := cL_length he.len l
  have hcl : c.length = base + (n * sz + B.length) := by rw [hc]; simp only [List.length_append]; omega
  have hpos : 0 < sz := Nat.pos_of_ne_zero he.pos
  unfold SrcV at hs
  have hne : c ≠ [] := fun h => by
    rw [h] at hcl
    simp only [List.length_nil] at hcl
    have := Nat.mul_pos (Nat.pos_of_ne_zero hn0) hpos
    omega
  have hmul : l.length * sz ≤ n * sz := Nat.mul_le_mul_right _ hl
  refine ⟨0, ⟨σ.objs.set id c', σ.opn, σ.gl⟩, OpS.of_aop2 hT rfl (aeval fr) (fun x _ => Wk.refl _) (a := .int .i64 (l.length : Nat)) ?_ (Wk.refl _), hH.put k hk c'⟩
  simp only [aop2, hx, acopy, hd, hi, hH.at_ k hk]
  rw [hsz, hs]
  simp only
  rw [if_pos ⟨by omega, by cases c with | nil => exact absurd rfl hne | cons _ _ => rfl, hl⟩]
  congr 4
  rw [hc', hc, hv', cL_append]
  subst hA
  rw [List.take_left' rfl, List.append_assoc, List.append_assoc]
  congr 2
  rw [hll, show A.length + l.length * sz = A.length + (l.length * sz) from rfl, List.drop_append, List.drop_of_length_le (by omega), List.nil_append]
  rw [show A.length + l.length * sz - A.length = l.length * sz by omega, List.drop_append_of_le_length (by omega), cL_drop he.len]
end
end Go.Va
namespace Go.Va
open Go Go.RowKit
set_option linter.unusedVariables false
set_option linter.unusedSimpArgs false

/-- What is known at a law's begin: what lies in memory. -/
def argG (w : World) : Ghost := ⟨fun b o => match w.cell? ⟨b, o, none⟩ with | some v => if v.oneCell' = true then some v else none | none => none, fun _ => none, fun _ => none, 0, fun _ => false, fun _ => 0⟩
theorem argG_fz {w : World} {b o : Nat} {v : Value} (h : w.cell? ⟨b, o, none⟩ = some v) (h1 : v.oneCell' = true) : (argG w).fz b o = some v := by
  simp [argG, h, h1]
theorem argG_inv (w : World) {gl : List (Addr × Value)} (hgl : ∀ p ∈ gl, w.cell? p.1 = some p.2) : Inv w (argG w) w ⟨[], [], gl⟩ := by
  refine ⟨Below.refl _ _, fun b o v h => ?_, fun id c h => by simp at h, fun id b o c h => by simp [argG] at h, fun id b h => by simp [argG] at h, fun id b h => by simp [argG] at h, fun i j b c d h => by simp [argG] at h, fun t b top en h => by simp at h, fun t x h => by simp [argG] at h, fun t t' x x' h => by simp at h, Nat.le_refl _, fun b h => by simp [argG] at h, hgl⟩
  simp only [argG] at h
  split at h
  case h_2 => cases h
  rename_i u hu
  split at h
  case isFalse => cases h
  rename_i h1
  cases h
  exact ⟨hu, h1⟩
/-- THE BRIDGE. -/
theorem ACall.said {P : Program} {n : FuncId} {args : List AV} {vs : Array Value} {w : World} {gl : List (Addr × Value)} (hgl : ∀ p ∈ gl, w.cell? p.1 = some p.2) (hc : ACall P n args ⟨[], [], gl⟩ (fun a τ => a = eB true ∧ τ = ⟨[], [], gl⟩)) (hr : RelL (argG w) vs.toList args) :
    Calls P n vs w fun e w' => e = .returned (.bool true) ∧ Below w.heap.size w w' :=
  (hc.2 w (argG w) w vs (argG_inv w hgl) hr).mono fun e w' ⟨v, a, σ', G', h1, _, h3, h4, h5, _⟩ => by
    subst h5
    cases h4
    exact ⟨h1, h3.below⟩

/-- Data of a type, in memory, are values of a kind. -/
def Opens (P : Program) (t : TypeId) {α : Type} (e : α → AV) (wf : α → Prop) : Prop :=
  ∀ {H : Type} (enc : TypeId × Value → H) (w : World) (fuel : Nat) (cs : List Value) (x : DataW H × List MemPlace), DataW.trod enc P w 0 (fun _ => true) true fuel t cs = some x → ∃ y : α, wf y ∧ RelL (argG w) cs (e y).cells ∧ ∀ v ∈ cs, v.oneCell' = true
def wfI (k : IntKind) (n : Int) : Prop := k.min ≤ n ∧ n ≤ k.max
def wfL {α : Type} (wf : α → Prop) (l : List α) : Prop := l.length ≤ maxLen ∧ ∀ x ∈ l, wf x
def wfS (s : List (BitVec 8)) : Prop := s.length ≤ maxLen
def wfT {α : Type} (_ : α) : Prop := True
theorem wfI_i64 {n : Int} (h : wfI .i64 n) : -9223372036854775808 ≤ n ∧ n ≤ 9223372036854775807 := h
section
variable {P : Program} {Ty : TypeId → Option TI} {t E : TypeId}
theorem wf_iff {k : IntKind} {n : Int} (h : (Lit.int k n).wf = true) : wfI k n := by
  simp only [Lit.wf, Bool.and_eq_true, decide_eq_true_eq] at h; exact h
theorem opens_i {k : IntKind} (h : P.underlying t = some (.int k)) : Opens P t (eK k) (wfI k) := by
  intro H enc w fuel cs x hx
  obtain ⟨n, rfl, _, hw⟩ := DataW.trod_int h hx
  exact ⟨n, wf_iff hw, (RelL.nil _).cons (.int _ _), by simp [Value.oneCell']⟩
theorem opens_i64 (h : P.underlying t = some (.int .i64)) : Opens P t eI (wfI .i64) := opens_i h
theorem opens_u {k : IntKind} {m : Nat} (hs : k.signed = false) (hb : k.bits = m) (h : P.underlying t = some (.int k)) : Opens P t (@eU k m) wfT := by
  subst hb
  intro H enc w fuel cs x hx
  obtain ⟨n, rfl, _, hw⟩ := DataW.trod_int h hx
  have hw := wf_iff hw
  simp only [wfI, IntKind.min, IntKind.max, hs, Bool.false_eq_true, if_false] at hw
  refine ⟨BitVec.ofInt k.bits n, trivial, ?_, by simp [Value.oneCell']⟩
  have e : ((BitVec.ofInt k.bits n).toNat : Int) = n := by
    rw [BitVec.toNat_ofInt]
    have h2 : (2 : Int) ^ k.bits = ((2 ^ k.bits : Nat) : Int) := by simp
    rw [h2] at hw
    rw [Int.emod_eq_of_lt hw.1 (by omega), Int.toNat_of_nonneg hw.1]
  show RelL _ _ [AV.int k ((BitVec.ofInt k.bits n).toNat : Int)]
  rw [e]
  exact (RelL.nil _).cons (.int _ _)
theorem opens_b (h : P.underlying t = some .bool) : Opens P t eB wfT := by
  intro H enc w fuel cs x hx
  obtain ⟨b, rfl, _⟩ := DataW.trod_bool h hx
  exact ⟨b, trivial, (RelL.nil _).cons (.bool _), by simp [Value.oneCell']⟩
theorem opens_s (h : P.underlying t = some .string) : Opens P t eS wfS := by
  intro H enc w fuel cs x hx
  obtain ⟨s, rfl, _, hs⟩ := DataW.trod_string h hx
  refine ⟨s.data.toList.map (·.toBitVec), ?_, ?_, by simp [Value.oneCell']⟩
  · simpa [wfS] using hs
  · show RelL _ _ [AV.str _]
    rw [mkB_of]
    exact (RelL.nil _).cons (.str _)
theorem cellsOf_ty (hT : TyOk P Ty) {i : TI} (h : Ty t = some i) : P.cellsOf t = i.sz := by
  obtain ⟨_, ti, z, h1, h2, _⟩ := hT t i h
  simp [Program.cellsOf, h1, h2]
theorem cellsOf_sz (hT : TyOk P Ty) {sz : Nat} (h : szOf Ty t = sz) (h0 : sz ≠ 0) : P.cellsOf t = sz := by
  unfold szOf at h
  split at h
  · rename_i i hi; rw [cellsOf_ty hT hi, h]
  · exact absurd h.symm h0
theorem opens_l (hT : TyOk P Ty) {sz : Nat} {α : Type} {e : α → AV} {wf : α → Prop} (h : P.underlying t = some (.slice E)) (he : Enc Ty E sz e) (ho : Opens P E e wf) : Opens P t (eL sz e) (wfL wf) := by
  intro H enc w fuel cs x hx
  rcases DataW.trod_slice h hx with ⟨rfl, _⟩ | ⟨a, len, cap, elems, rest, n, _, rfl, _, _, hlc, hcm, hel, hat, _, _⟩
  · exact ⟨[], ⟨Nat.zero_le _, fun x hx => by cases hx⟩, (RelL.nil _).cons (.sl0 none 0 .no sz (Nat.zero_le _) (.inl rfl)), by simp [Value.oneCell']⟩
  · rw [cellsOf_sz hT he.ty he.pos] at hat
    have key : ∀ i, i < len → ∃ cs' y, w.cells? 0 (a.add (i * sz)) sz = some cs' ∧ wf y ∧ RelL (argG w) cs' (e y).cells ∧ ∀ v ∈ cs', v.oneCell' = true := fun i hi => by
      have h1 := hat i hi
      rw [List.getElem?_eq_getElem (by omega)] at h1
      obtain ⟨cs', h2, h3⟩ := Option.bind_eq_some_iff.1 h1
      obtain ⟨y, h4, h5, h6⟩ := ho enc w n cs' _ h3
      exact ⟨cs', y, h2, h4, h5, h6⟩
    -- the values, one by one
    have all : ∀ m, m ≤ len → ∃ ys : List α, ys.length = m ∧ (∀ y ∈ ys, wf y) ∧ ∀ (i : Nat) (y : α), ys[i]? = some y → ∃ cs', w.cells? 0 (a.add (i * sz)) sz = some cs' ∧ RelL (argG w) cs' (e y).cells ∧ ∀ v ∈ cs', v.oneCell' = true := by
      intro m
      induction m with
      | zero => exact fun _ => ⟨[], rfl, (fun y hy => by cases hy), fun i y hy => by simp at hy⟩
      | succ m ih =>
        intro hm
        obtain ⟨ys, h1, h2, h3⟩ := ih (by omega)
        obtain ⟨cs', y, k1, k2, k3, k4⟩ := key m (by omega)
        refine ⟨ys ++ [y], by simp [h1], fun z hz => ?_, fun i z hz => ?_⟩
        · rcases List.mem_append.1 hz with hz | hz
          · exact h2 z hz
          · simp at hz; subst hz; exact k2
        · rw [List.getElem?_append] at hz
          split at hz
          · exact h3 i z hz
          · rename_i hi
            have : i - ys.length = 0 := by
              rcases Nat.eq_zero_or_pos (i - ys.length) with h0 | h0
              · exact h0
              · rw [List.getElem?_eq_none (by simp; omega)] at hz; cases hz
            rw [this] at hz
            simp at hz
            subst hz
            rw [show i = m by omega]
            exact ⟨cs', k1, k3, k4⟩
    obtain ⟨ys, h1, h2, h3⟩ := all len (Nat.le_refl _)
    refine ⟨ys, ⟨by omega, h2⟩, (RelL.nil _).cons ?_, by simp [Value.oneCell']⟩
    have hz : ∀ z ∈ ys.map e, z.cells.length = sz := fun z hz => by obtain ⟨y, _, rfl⟩ := List.mem_map.1 hz; exact he.len y
    cases ys with
    | nil =>
      simp at h1
      subst h1
      exact .sl0 _ _ .no sz hcm (.inl rfl)
    | cons y0 ys0 =>
      have hsp : a.spot = none := by
        obtain ⟨cs', k1, _, _⟩ := h3 0 y0 rfl
        obtain ⟨_, k2, k3⟩ := World.cells?_some k1
        have := k3 0 (Nat.pos_of_ne_zero he.pos)
        rw [Nat.zero_mul] at this
        have e0 : (a.add 0).add 0 = a := by simp [Addr.add]
        rw [e0, List.getElem?_eq_getElem (by have := Nat.pos_of_ne_zero he.pos; omega)] at this
        exact World.cell?_spot this
      obtain ⟨b, o, sp⟩ := a
      simp only at hsp
      subst hsp
      have hl : ((y0 :: ys0).map e).length = len := by rw [List.length_map]; exact h1
      have hcell : ∀ (i : Nat) (z : AV) (j : Nat) (u : AV), ((y0 :: ys0).map e)[i]? = some z → z.cells[j]? = some u → ∃ v, w.cell? ⟨b, o + i * sz + j, none⟩ = some v ∧ v.oneCell' = true ∧ Rel (argG w) v u := by
        intro i z j u e1 e2
        rw [List.getElem?_map, Option.map_eq_some_iff] at e1
        obtain ⟨y, e1, rfl⟩ := e1
        obtain ⟨cs', k1, k2, k3⟩ := h3 i y e1
        obtain ⟨_, k4, k5⟩ := World.cells?_some k1
        obtain ⟨v, hv, hr⟩ := k2.get e2
        have hj : j < sz := by rw [← k4]; exact (List.getElem?_eq_some_iff.1 hv).1
        have := k5 j hj
        rw [Addr.add_lit, Addr.add_lit, hv] at this
        exact ⟨v, this, k3 v (List.mem_of_getElem? hv), hr⟩
      have key2 := Rel.sl (G := argG w) b o cap .no sz ((y0 :: ys0).map e) (fun i j => (w.cell? ⟨b, o + i * sz + j, none⟩).getD undef) (by rw [hl]; exact hlc) hcm hz (fun i z j u e1 e2 => by
        obtain ⟨v, k1, k2, k3⟩ := hcell i z j u e1 e2
        rw [k1]
        exact argG_fz k1 k2) (fun i z j u e1 e2 => by
        obtain ⟨v, k1, k2, k3⟩ := hcell i z j u e1 e2
        rw [k1]
        exact k3) trivial
      rw [hl] at key2
      exact key2
/-! ### structures -/
theorem rel_piece {G : Ghost} {cs : List Value} {o s : Nat} {a b : List AV} (h : RelL G ((cs.drop o).take s) a) (k : RelL G (cs.drop (o + s)) b) : RelL G (cs.drop o) (a ++ b) := by
  have := h.append k
  rw [← List.drop_drop, List.take_append_drop] at this
  exact this
theorem rel_end {G : Ghost} {cs : List Value} {n : Nat} (h : cs.length = n) : RelL G (cs.drop n) [] := by
  rw [List.drop_of_length_le (by omega)]; exact RelL.nil G
theorem one_piece {cs : List Value} {o s : Nat} (h : ∀ v ∈ (cs.drop o).take s, v.oneCell' = true) (k : ∀ v ∈ cs.drop (o + s), v.oneCell' = true) : ∀ v ∈ cs.drop o, v.oneCell' = true := by
  intro v hv
  rw [← List.take_append_drop s (cs.drop o), List.drop_drop] at hv
  rcases List.mem_append.1 hv with hv | hv
  · exact h v hv
  · exact k v hv
theorem one_end {cs : List Value} {n : Nat} (h : cs.length = n) : ∀ v ∈ cs.drop n, v.oneCell' = true := by
  rw [List.drop_of_length_le (by omega)]; intro v hv; cases hv
theorem opens_f {fs : Array Field} {α : Type} {e : α → AV} {wf : α → Prop} {H : Type} {enc : TypeId × Value → H} {w : World} {m : Nat} {cs : List Value} {xs : List (DataW H × List MemPlace)} (hx : ∀ (i : Nat) (f : Field), fs[i]? = some f → DataW.trod enc P w 0 (fun _ => true) true m f.type ((cs.drop f.offset).take (P.cellsOf f.type)) = xs[i]?) (hl : xs.length = fs.size)
    (i : Nat) {f : Field} {o s : Nat} (hf : fs[i]? = some f) (ht : Opens P f.type e wf) (ho : f.offset = o) (hs : P.cellsOf f.type = s) : ∃ y, wf y ∧ RelL (argG w) ((cs.drop o).take s) (e y).cells ∧ ∀ v ∈ (cs.drop o).take s, v.oneCell' = true := by
  subst ho; subst hs
  have h1 := hx i f hf
  have hi : i < fs.size := (Array.getElem?_eq_some_iff.1 hf).1
  rw [List.getElem?_eq_getElem (by omega)] at h1
  exact ht enc w m _ _ h1
/-- An argument, opened. -/
theorem Opens.arg {α : Type} {e : α → AV} {wf : α → Prop} (ho : Opens P t e wf) {sz : Nat} (he : Enc Ty t sz e) (hd : TdOk P t (tdOf Ty t)) {H : Type} {enc : TypeId × Value → H} {w : World} {r : Reach} {b0 : Nat} {v : Value} {d : DataW H} {ps : List MemPlace} (hval : Value.okWide P w r b0 t v) (h : DataW.Trod enc P w 0 (fun _ => true) true t v d ps) : ∃ y : α, wf y ∧ Rel (argG w) v (e y) := by
  obtain ⟨fuel, hf⟩ := h
  obtain ⟨y, h1, h2, _⟩ := ho enc w fuel _ _ hf
  refine ⟨y, h1, ?_⟩
  cases ha : isAggTD (tdOf Ty t) with
  | true =>
    have : ∃ cs, v = .agg cs := by
      cases htd : tdOf Ty t <;> rw [htd] at ha hd <;> simp [isAggTD] at ha
      · simp only [TdOk] at hd
        simp only [Value.okWide, hd] at hval
        obtain ⟨cs, h, _⟩ := hval; exact ⟨cs, h⟩
      · simp only [TdOk] at hd
        obtain ⟨fs, hd, _⟩ := hd
        simp only [Value.okWide, hd] at hval
        obtain ⟨cs, h, _⟩ := hval; exact ⟨cs, h⟩
    obtain ⟨cs, rfl⟩ := this
    rw [he.agg ha y]
    exact mkAgg (by simpa [Value.cells] using h2)
  | false =>
    rw [he.one ha y] at h2
    have hne : ∀ cs, v ≠ .agg cs := by
      rintro cs rfl
      have hl := h2.len
      simp only [Value.cells, List.length_singleton] at hl
      cases htd : tdOf Ty t <;> rw [htd] at ha hd <;> simp [isAggTD] at ha <;> simp only [TdOk] at hd
      case iface => obtain ⟨ms, hd⟩ := hd; simp [Value.okWide, hd, Cell.okWide, Cell.ok] at hval
      case func => obtain ⟨ps, rs, vv, hd⟩ := hd; simp [Value.okWide, hd, Cell.okWide, Cell.ok] at hval
      all_goals simp [Value.okWide, hd, Cell.okWide, Cell.ok] at hval
    have hc : v.cells.toList = [v] := by cases v <;> first | rfl | exact absurd rfl (hne _)
    rw [hc] at h2
    exact h2.at_ 0 v (e y) rfl rfl
end
end Go.Va
namespace Go.Va
open Go Go.RowKit
set_option linter.unusedVariables false
set_option linter.unusedSimpArgs false
mutual
/-- A value that speaks of no variable, and of no room. -/
def purA : AV → Bool
  | .sl .no _ es => purL es
  | .sl .full _ _ => false
  | .sl (.own _) _ _ => false
  | .agg cs => purL cs
  | .tup vs => purL vs
  | .fptr x _ => purL x
  | .iface _ v => purA v
  | .fn _ a b => purL a && purL b
  | .ref _ _ => false
  | .msl _ _ _ => false
  | .vec _ _ _ => false
  | .vc _ _ _ _ _ => false
  | .junk => true
  | .int _ _ => true
  | .bool _ => true
  | .str _ => true
  | .nilp => true
  | .nils => true
  | .nilm => true
  | .nilf => true
  | .nili => true
def purL : List AV → Bool
  | [] => true
  | a :: l => purA a && purL l
end
theorem purL_iff : ∀ {l : List AV}, purL l = true ↔ ∀ a ∈ l, purA a = true
  | [] => by simp [purL]
  | a :: l => by simp [purL, purL_iff (l := l)]
theorem purL_append (l m : List AV) : purL (l ++ m) = (purL l && purL m) := by
  induction l with
  | nil => simp [purL]
  | cons a l ih => simp [purL, ih, Bool.and_assoc]
theorem pur_cells {a x : AV} (h : purA a = true) (hx : x ∈ a.cells) : purA x = true := by
  cases a with
  | agg cs =>
    have h' : purL cs = true := by simpa [purA] using h
    exact purL_iff.1 h' x hx
  | _ => simp [AV.cells] at hx; subst hx; exact h
theorem Rel.pur {G G2 : Ghost} (hz : ∀ b o u, G.fz b o = some u → G2.fz b o = some u) {v : Value} {a : AV} (h : Rel G v a) (hp : purA a = true) : Rel G2 v a := by
  induction h with
  | junk v => exact .junk v
  | int k n => exact .int k n
  | bool b => exact .bool b
  | str s => exact .str s
  | nilp => exact .nilp
  | nils => exact .nils
  | nilm => exact .nilm
  | nilf => exact .nilf
  | nili => exact .nili
  | agg vs aas hl _ ih => exact .agg vs aas hl fun i v a h1 h2 => ih i v a h1 h2 (purL_iff.1 (by simpa [purA] using hp) a (List.mem_of_getElem? h2))
  | tup vs aas hl _ ih => exact .tup vs aas hl fun i v a h1 h2 => ih i v a h1 h2 (purL_iff.1 (by simpa [purA] using hp) a (List.mem_of_getElem? h2))
  | sl b o c t sz es val hc hm hzz hf _ ht ih =>
    cases t with
    | no =>
      have hp' : ∀ e ∈ es, purA e = true := purL_iff.1 (by simpa [purA] using hp)
      exact .sl b o c .no sz es val hc hm hzz (fun i e j a h1 h2 => hz _ _ _ (hf i e j a h1 h2)) (fun i e j a h1 h2 => ih i e j a h1 h2 (pur_cells (hp' e (List.mem_of_getElem? h1)) (List.mem_of_getElem? h2))) trivial
    | _ => cases hp
  | sl0 A c t sz hm ht =>
    cases t with
    | no => exact .sl0 A c .no sz hm (.inl rfl)
    | _ => cases hp
  | fptr b o off x val hf _ ih =>
    have hp' : ∀ e ∈ x, purA e = true := purL_iff.1 (by simpa [purA] using hp)
    exact .fptr b o off x val (fun j a h1 => hz _ _ _ (hf j a h1)) fun j a h1 => ih j a h1 (hp' a (List.mem_of_getElem? h1))
  | ref id off b h => cases hp
  | msl id off len c b hc h => cases hp
  | vec id sz len c b h0 hc hm h hs => cases hp
  | vec0 A id sz => cases hp
  | vc id sz off len c b hc hm h hs => cases hp
  | iface t v a _ ih => exact .iface t v a (ih (by simpa [purA] using hp))
  | fn f fs cs fa ca hl hk _ _ ih1 ih2 =>
    simp only [purA, Bool.and_eq_true] at hp
    exact .fn f fs cs fa ca hl hk (fun i v a h1 h2 => ih1 i v a h1 h2 (purL_iff.1 hp.1 a (List.mem_of_getElem? h2))) (fun i v a h1 h2 => ih2 i v a h1 h2 (purL_iff.1 hp.2 a (List.mem_of_getElem? h2)))
theorem pur_eL {α : Type} {e : α → AV} {sz : Nat} (h : ∀ x, purA (e x) = true) (l : List α) : purA (eL sz e l) = true := by
  simp only [eL, purA]
  exact purL_iff.2 fun a ha => by obtain ⟨x, _, rfl⟩ := List.mem_map.1 ha; exact h x
/-- What an argument is seen as. -/
inductive BArg (σ : St) : AV → AV → Prop where
  | wk {a b : AV} (h : Wk a b) (hp : purA b = true) : BArg σ a b
  | vec {id sz n : Nat} {es : List AV} (hc : σ.objs[id]? = some (flat es)) (hn : n = es.length) (hz : ∀ e ∈ es, e.cells.length = sz) (hs : sz ≠ 0) (hp : purL es = true) : BArg σ (.vec id sz n) (.sl .no sz es)
  | vc {id sz off n cap : Nat} {cells es : List AV} (hc : σ.objs[id]? = some cells) (hle : off + n * sz ≤ cells.length) (hcs : (cells.drop off).take (n * sz) = flat es) (hn : n = es.length) (hz : ∀ e ∈ es, e.cells.length = sz) (hs : sz ≠ 0) (hp : purL es = true) : BArg σ (.vc id sz off n cap) (.sl .no sz es)
theorem BArg.vecl {Ty : TypeId → Option TI} {σ0 σ : St} {O : List (Nat × List AV)} {A : List Nat} (hH : Holds σ0 O A σ) (k : Nat) {id sz n : Nat} {α : Type} {e : α → AV} {l : List α} {E : TypeId} (hk : O[k]? = some (id, cL e l)) (hn : l.length = n) (he : Enc Ty E sz e) (hp : ∀ x, purA (e x) = true) : BArg σ (.vec id sz n) (eL sz e l) :=
  .vec (es := l.map e) (hH.at_ k hk) (by rw [List.length_map]; exact hn.symm) (fun y hy => by obtain ⟨x, _, rfl⟩ := List.mem_map.1 hy; exact he.len x) he.pos (purL_iff.2 fun y hy => by obtain ⟨x, _, rfl⟩ := List.mem_map.1 hy; exact hp x)
inductive BArgs (σ : St) : List AV → List AV → Prop where
  | nil : BArgs σ [] []
  | cons {a b : AV} {aas bs : List AV} (h : BArg σ a b) (t : BArgs σ aas bs) : BArgs σ (a :: aas) (b :: bs)
theorem BArg.rel {σ : St} {w0 : World} {G : Ghost} {w : World} (hI : Inv w0 G w σ) {a b : AV} (h : BArg σ a b) {v : Value} (hr : Rel G v a) : Rel (argG w) v b := by
  have hz : ∀ b o u, G.fz b o = some u → (argG w).fz b o = some u := fun b o u hf => argG_fz (hI.fz b o u hf).1 (hI.fz b o u hf).2
  cases h with
  | wk h hp => exact (h G v hr).pur hz hp
  | @vec id sz n es hc hn hzz hs hp =>
    have hfl := flat_length hzz
    cases hr with
    | vec0 A _ _ =>
      have hnil : es = [] := List.eq_nil_of_length_eq_zero hn.symm
      subst hnil
      exact .sl0 A 0 .no sz (Nat.zero_le _) (.inl rfl)
    | vec _ _ _ c b h0 hc' hm hl hbs =>
      have hne : flat es ≠ [] := fun he => by
        have h2 : (flat es).length = 0 := by rw [he]; rfl
        rw [hfl] at h2
        rcases Nat.mul_eq_zero.1 h2 with h | h
        · omega
        · exact hs h
      obtain ⟨b', T, vs, k1, k2, k3, k4, k5, k6⟩ := hI.loc _ _ hc hne
      rw [hl] at k1
      injection k1 with k1
      subst k1
      have hrel : RelL (argG w) (vs.toList.take (flat es).length) (flat es) := ⟨k4.rel.len, fun i u a h1 h2 => (k4.rel.at_ i u a h1 h2).pur hz (by
        obtain ⟨e, he, ha⟩ := List.mem_flatMap.1 (show a ∈ es.flatMap AV.cells from by have := List.mem_of_getElem? h2; simpa [flat] using this)
        exact pur_cells (purL_iff.1 hp e he) ha)⟩
      rw [hn]
      refine Rel.mkSl (b := b) (o := 0) (t := .no) (by omega) hm hzz hrel (fun j u hu => ?_) trivial
      rw [Nat.zero_add]
      rw [List.getElem?_take] at hu
      split at hu
      · refine argG_fz ?_ (k5 u (List.mem_iff_getElem?.2 ⟨j, hu⟩))
        rw [cell_of_row _ _ _ vs T (0, 0) k3]
        simpa using hu
      · cases hu
  | @vc id sz off n cap cells es hc hle hcs hn hzz hs hp =>
    have hfl := flat_length hzz
    cases hr with
    | vc _ _ _ _ _ b hc' hm hl hbs =>
      by_cases hne : cells = []
      · subst hne
        have h0 : n * sz = 0 := by rw [List.length_nil] at hle; omega
        have hn0 : n = 0 := by
          rcases Nat.mul_eq_zero.1 h0 with h | h
          · exact h
          · exact absurd h hs
        subst hn0
        have hnil : es = [] := List.eq_nil_of_length_eq_zero hn.symm
        subst hnil
        exact .sl0 _ cap .no sz hm (.inl rfl)
      · obtain ⟨b', T, vs, k1, k2, k3, k4, k5, k6⟩ := hI.loc _ _ hc hne
        rw [hl] at k1
        injection k1 with k1
        subst k1
        have hvs : cells.length ≤ vs.size := k4.le
        have hcl : (flat es).length = n * sz := by rw [hfl, ← hn]
        have hrel : RelL (argG w) ((vs.toList.drop off).take (n * sz)) (flat es) := ⟨by rw [hcl, List.length_take, List.length_drop, Array.length_toList]; omega, fun i u a h1 h2 => by
          have hi : i < n * sz := by rw [← hcl]; exact (List.getElem?_eq_some_iff.1 h2).1
          rw [List.getElem?_take, if_pos hi, List.getElem?_drop] at h1
          have h3 := h2
          rw [← hcs, List.getElem?_take, if_pos hi, List.getElem?_drop] at h3
          refine (k4.rel.at_ (off + i) u a (by rw [List.getElem?_take, if_pos (by omega)]; exact h1) h3).pur hz ?_
          obtain ⟨e, he, ha⟩ := List.mem_flatMap.1 (show a ∈ es.flatMap AV.cells from by have := List.mem_of_getElem? h2; simpa [flat] using this)
          exact pur_cells (purL_iff.1 hp e he) ha⟩
        rw [hn] at hrel hc' ⊢
        refine Rel.mkSl (b := b) (o := off) (t := .no) hc' hm hzz hrel (fun j u hu => ?_) trivial
        rw [List.getElem?_take] at hu
        split at hu
        · rw [List.getElem?_drop] at hu
          refine argG_fz ?_ (k5 u (List.mem_iff_getElem?.2 ⟨off + j, hu⟩))
          rw [cell_of_row _ _ _ vs T (0, 0) k3]
          simpa using hu
        · cases hu
theorem BArgs.rel {σ : St} {w0 : World} {G : Ghost} {w : World} (hI : Inv w0 G w σ) : ∀ {aas bs : List AV} (_ : BArgs σ aas bs) {vs : List Value}, RelL G vs aas → RelL (argG w) vs bs
  | _, _, .nil, vs, h => ⟨h.len, fun i v a _ h2 => by simp at h2⟩
  | _, _, .cons (a := a) h t, vs, hr => by
    cases vs with
    | nil => have := hr.len; simp at this
    | cons v vs =>
      exact RelL.cons (h.rel hI (hr.at_ 0 v a rfl rfl)) (t.rel hI ⟨by simpa using hr.len, fun i u b e1 e2 => hr.at_ (i + 1) u b (by simpa using e1) (by simpa using e2)⟩)
/-- A value that speaks of no memory. -/
def sclA : AV → Bool
  | .int _ _ => true
  | .bool _ => true
  | .str _ => true
  | .tup [] => true
  | .tup [.int _ _, .bool _] => true
  | .tup [.int _ _, .int _ _] => true
  | _ => false
theorem Rel.scl {G G2 : Ghost} {v : Value} {a : AV} (h : Rel G v a) (hs : sclA a = true) : Rel G2 v a := by
  unfold sclA at hs
  split at hs
  · cases h; exact .int _ _
  · cases h; exact .bool _
  · cases h; exact .str _
  · cases h with | tup vs _ hl _ => exact .tup vs [] hl (fun i v a _ h => by simp at h)
  · cases h with | tup vs _ hl h =>
    refine .tup vs _ hl fun i v a h1 h2 => ?_
    have := h i v a h1 h2
    match i, h2 with
    | 0, h2 => simp at h2; subst h2; cases this; exact .int _ _
    | 1, h2 => simp at h2; subst h2; cases this; exact .bool _
    | i + 2, h2 => simp at h2
  · cases h with | tup vs _ hl h =>
    refine .tup vs _ hl fun i v a h1 h2 => ?_
    have := h i v a h1 h2
    match i, h2 with
    | 0, h2 => simp at h2; subst h2; cases this; exact .int _ _
    | 1, h2 => simp at h2; subst h2; cases this; exact .int _ _
    | i + 2, h2 => simp at h2
  · cases hs
/-- A world that goes on beside all that was there. -/
theorem Inv.extend {w0 : World} {G : Ghost} {w w' : World} {σ : St} (h : Inv w0 G w σ) (hb : Below w.heap.size w w') : Inv w0 G w' σ := by
  have hc : ∀ b o v, w.cell? ⟨b, o, none⟩ = some v → w'.cell? ⟨b, o, none⟩ = some v := fun b o v hv => by
    rw [hb.cell (World.block_lt_of_cell? w ⟨b, o, none⟩ hv)]; exact hv
  have hh : ∀ {b : Nat} {x : Obj}, w.heap[b]? = some x → w'.heap[b]? = some x := fun {b x} hx => by
    rw [hb.block b (Array.getElem?_eq_some_iff.1 hx).1]; exact hx
  exact ⟨h.below.trans (hb.mono h.below.size), fun b o v hf => ⟨hc b o v (h.fz b o v hf).1, (h.fz b o v hf).2⟩, fun id c hc' hn => by
    obtain ⟨b, T, vs, e1, e2, e3, e4, e5, e6⟩ := h.loc id c hc' hn
    exact ⟨b, T, vs, e1, e2, hh e3, e4, e5, e6⟩, h.locfz, fun id b hl => Nat.lt_of_lt_of_le (h.loclt id b hl) hb.size, h.locdom, h.locinj, fun t b top en ho ht => by
    obtain ⟨e1, ⟨cs, T, e2, e3⟩, e4, e5⟩ := h.tok t b top en ho ht
    exact ⟨e1, ⟨cs, T, hh e2, e3⟩, e4, e5⟩, h.tokdom, h.tokinj, h.nt, fun b hb' => by
    obtain ⟨e1, e2, e3, e4⟩ := h.lit b hb'
    exact ⟨e1, Nat.lt_of_lt_of_le e2 hb.size, e3, e4⟩, h.gl⟩
theorem Inv.glw {w0 : World} {G : Ghost} {w : World} {σ : St} (h : Inv w0 G w σ) : ∀ p ∈ σ.gl, w.cell? p.1 = some p.2 := fun p hp => by
  have := h.gl p hp
  rw [h.below.cell (World.block_lt_of_cell? w0 p.1 this)]
  exact this
section
variable {P : Program} {Ty : TypeId → Option TI} {σ : St} {fr : Nat → AV}
theorem OpS.borrow {o : Oper} {f : Operand} {xs : List Operand} {g : FuncId} {first cap args : List AV} {b : AV} (hc : callOf o = some (f, xs)) (hf : aeval fr f = .fn (.func g) first cap) (hargs : BArgs σ (first ++ xs.map (aeval fr) ++ cap) args) (hb : sclA b = true) (hcall : ACall P g args ⟨[], [], σ.gl⟩ (fun a τ => a = b ∧ τ = ⟨[], [], σ.gl⟩)) : OpS P o fr σ (fun a τ => a = b ∧ τ = σ) := by
  have hmem : f ∈ o.op.operands ∧ ∀ y ∈ xs, y ∈ o.op.operands := by
    unfold callOf at hc
    split at hc
    case h_2 => cases hc
    rename_i c ho
    split at hc
    case h_2 => cases hc
    rename_i f' hcal
    simp at hc
    obtain ⟨rfl, rfl⟩ := hc
    rw [ho]
    simp only [Op.operands, Call.operands, hcal]
    exact ⟨by simp, fun y hy => Array.mem_append.2 (.inr (Array.mem_toList_iff.1 hy))⟩
  intro w0 G act w Q K' hI hr hK
  have hrf := hr f hmem.1
  rw [hf] at hrf
  cases hfv : act.eval f <;> rw [hfv] at hrf <;> cases hrf
  rename_i fs cs h1 h3 h2 h4
  unfold Oper.wp
  rw [call_run hc hfv hcall.1 w]
  simp only [Oper.upon]
  have hl1 : RelL G fs.toList first := ⟨by simpa using h1, fun i v a e1 e2 => h3 i v a (by simpa using e1) e2⟩
  have hl2 : RelL G cs.toList cap := ⟨by simpa using h2, fun i v a e1 e2 => h4 i v a (by simpa using e1) e2⟩
  have hl3 : RelL G (xs.map act.eval) (xs.map (aeval fr)) := ⟨by simp, fun i v x e1 e2 => by
    rw [List.getElem?_map] at e1 e2
    cases hx : xs[i]? with
    | none => rw [hx] at e1; cases e1
    | some y => rw [hx] at e1 e2; cases e1; cases e2; exact hr y (hmem.2 y (List.mem_of_getElem? hx))⟩
  have hrel := hargs.rel hI (vs := (fs ++ (xs.map act.eval).toArray ++ cs).toList) (by simpa using (hl1.append hl3).append hl2)
  refine (hcall.2 w (argG w) w _ (argG_inv w hI.glw) hrel).mono ?_
  rintro e w' ⟨v, x, σ', G', rfl, k1, k2, k3, rfl, rfl⟩
  exact hK v x σ w' G ⟨rfl, rfl⟩ (.refl G) (hI.extend k2.below) (k3.scl hb)
/-- A variable is seen as less. -/
theorem Inv.wko {w0 : World} {G : Ghost} {w : World} {σ : St} (h : Inv w0 G w σ) {id : Nat} {c c' : List AV} (hc : σ.objs[id]? = some c) (hw : WkL c c') : Inv w0 G w ⟨σ.objs.set id c', σ.opn, σ.gl⟩ := by
  have hlen : ∀ {a b : List AV}, WkL a b → a.length = b.length := by
    intro a b h
    induction h with
    | nil => rfl
    | cons _ _ ih => simp [ih]
  have hl := hlen hw
  have hlt := (List.getElem?_eq_some_iff.1 hc).1
  have key : ∀ (i : Nat) (d : List AV), (σ.objs.set id c')[i]? = some d → d ≠ [] → ∃ d', σ.objs[i]? = some d' ∧ d' ≠ [] ∧ WkL d' d := by
    intro i d hd hn
    rw [List.getElem?_set] at hd
    split at hd
    · rename_i he; subst he
      have hd' : c' = d := by
        first
          | exact Option.some.inj hd
          | (rw [if_pos hlt] at hd; exact Option.some.inj hd)
      subst hd'
      exact ⟨c, hc, fun h => by rw [h] at hl; exact hn (List.eq_nil_of_length_eq_zero hl.symm), hw⟩
    · exact ⟨d, hd, hn, .refl d⟩
  refine ⟨h.below, h.fz, fun i d hd hn => ?_, fun i b o d hl' hd hn => ?_, h.loclt, fun i b hl' => by simpa using h.locdom i b hl', fun i j b d e hi hj hd he hn hn' => ?_, fun t b top en ho ht => ?_, h.tokdom, h.tokinj, h.nt, h.lit, h.gl⟩
  · obtain ⟨d', a1, a2, a3⟩ := key i d hd hn
    obtain ⟨b, T, vs, e1, e2, e3, e4, e5, e6⟩ := h.loc i d' a1 a2
    have hdl := hlen a3
    exact ⟨b, T, vs, e1, e2, e3, ⟨by rw [← hdl]; exact e4.le, by rw [← hdl]; exact a3.rel e4.rel⟩, e5, e6⟩
  · obtain ⟨d', a1, a2, _⟩ := key i d hd hn
    exact h.locfz i b o d' hl' a1 a2
  · obtain ⟨d', a1, a2, _⟩ := key i d hd hn
    obtain ⟨e', b1, b2, _⟩ := key j e he hn'
    exact h.locinj i j b d' e' hi hj a1 b1 a2 b2
  · obtain ⟨e1, e2, e3, e4⟩ := h.tok t b top en ho ht
    refine ⟨e1, e2, e3, fun i hi => ?_⟩
    have h0 := e4 i hi
    rw [List.getElem?_set]
    split
    · rename_i he; subst he
      rw [hc] at h0; cases h0
      have : c' = [] := List.eq_nil_of_length_eq_zero hl.symm
      subst this
      first | rfl | rw [if_pos hlt]
    · exact h0
theorem AWP.wko {n : Nat} {c : Code} {Q : AExit → (Nat → AV) → St → Prop} {l : List (Nat × AV)} {σ0 : St} {O : List (Nat × List AV)} {A : List Nat} (hH : Holds σ0 O A σ) (k : Nat) {id : Nat} {c0 c1 : List AV} (hk : O[k]? = some (id, c0)) (hw : WkL c0 c1) (h : ∀ τ, Holds σ0 (O.set k (id, c1)) A τ → AWP P n c Q (Va.fm l) τ) : AWP P n c Q (Va.fm l) σ := fun w0 G a w hS =>
  h _ (hH.put k hk c1) w0 G a w ⟨hS.inv.wko (hH.at_ k hk) hw, hS.frm, hS.size, hS.defers⟩
theorem Holds.unbringAt {σ0 σ : St} {O : List (Nat × List AV)} {A : List Nat} (h : Holds σ0 O A σ) (k : Nat) {id : Nat} {c : List AV} (hk : O[k]? = some (id, c)) (h0 : σ0.objs[id]? = some c) : Holds σ0 (O.eraseIdx k) A σ := by
  have hsub := set_erase O k
  refine ⟨fun i d h1 h2 => ?_, h.opn, h.olen, h.tlen, fun p hp => h.obj p (hsub.subset hp), h.dist.sublist hsub, h.tok, h.tdist, h.gl⟩
  by_cases hi : i = id
  · subst hi
    rw [h0] at h1
    cases h1
    exact h.at_ k hk
  · refine h.base i d h1 (fun p hp => ?_)
    obtain ⟨j, hj⟩ := List.mem_iff_getElem?.1 hp
    by_cases hjk : j = k
    · subst hjk; rw [hk] at hj; cases hj; exact Ne.symm hi
    · exact h2 p (List.mem_eraseIdx_iff_getElem?.2 ⟨j, hjk, hj⟩)
end
end Go.Va
namespace Go.Va
open Go Go.RowKit
section
variable {P : Program} {Ty : TypeId → Option TI} {σ σ' : St} {fr : Nat → AV}
theorem OpS.of_run {o : Oper} {a : AV} (h : ∀ w0 G (ρ : Operand → Value) w, Inv w0 G w σ → (∀ x ∈ o.op.operands, Rel G (ρ x) (aeval fr x)) → ∃ v w' G', (execOp ρ o).run P w = .ok (.value v) w' ∧ G.Le G' ∧ Inv w0 G' w' σ' ∧ Rel G' v a) : OpS P o fr σ (fun a' τ => a' = a ∧ τ = σ') := by
  intro w0 G act w Q K' hI hr hK
  obtain ⟨v, w', G', h1, h2, h3, h4⟩ := h w0 G act.eval w hI hr
  unfold Oper.wp
  rw [h1]
  exact hK v a σ' w' G' ⟨rfl, rfl⟩ h2 h3 h4
/-- Things of a few simple fields, side by side. -/
def eqCells (P : Program) : List Field → List AV → List AV → Option Bool
  | [], _, _ => some true
  | f :: fs, cs, ds => if f.name = "_" then none else match cs[f.offset]?, ds[f.offset]?, P.underlying f.type with
    | some (.int k a), some (.int k' b), some (.int _) => if k = k' then (if a == b then eqCells P fs cs ds else some false) else none
    | some (.str a), some (.str b), some .string => if decide (a = b) then eqCells P fs cs ds else some false
    | some (.bool a), some (.bool b), some .bool => if a == b then eqCells P fs cs ds else some false
    | _, _, _ => none
theorem eqCells_run {G : Ghost} {w : World} : ∀ {fs : List Field} {cs ds : List AV} {b : Bool} {xs ys : Array Value}, RelL G xs.toList cs → RelL G ys.toList ds → eqCells P fs cs ds = some b → ∀ d : Nat, (Op.eqFields (d + 1) xs ys fs).run P w = .ok b w
  | [], cs, ds, b, xs, ys, _, _, h, d => by
    simp only [eqCells, Option.some.injEq] at h; subst h; simp [Op.eqFields]
  | f :: fs, cs, ds, b, xs, ys, hx, hy, h, d => by
    unfold eqCells at h
    split at h
    case isTrue => cases h
    rename_i hn
    have key : ∀ {a c : AV} {r : Bool}, cs[f.offset]? = some a → ds[f.offset]? = some c → ∃ u v, xs[f.offset]? = some u ∧ ys[f.offset]? = some v ∧ Rel G u a ∧ Rel G v c := by
      intro a c r h1 h2
      obtain ⟨u, hu, hru⟩ := hx.get h1
      obtain ⟨v, hv, hrv⟩ := hy.get h2
      exact ⟨u, v, by simpa using hu, by simpa using hv, hru, hrv⟩
    have pt : ∀ {ws : Array Value} {u : Value}, ws[f.offset]? = some u → (∀ fs, P.underlying f.type ≠ some (.struct fs)) → (∀ n e, P.underlying f.type ≠ some (.array n e)) → ∀ {dd : TypeDesc}, P.underlying f.type = some dd → (part f.type ws f.offset).run P w = .ok u w := by
      intro ws u hu h1 h2 dd hd
      have : (isAgg f.type).run P w = .ok false w := by
        simp only [isAgg, Sem.run_bind, run_underlying hd, Result.andThen_ok]
        cases dd <;> simp_all
      simp [part, this, hu]
    have step : ∀ {u v : Value} {r : Bool} {dd : TypeDesc}, xs[f.offset]? = some u → ys[f.offset]? = some v → P.underlying f.type = some dd → (∀ fs, dd ≠ .struct fs) → (∀ n e, dd ≠ .array n e) → (Op.equalIn (d + 1) f.type u v).run P w = .ok r w → (if r = true then eqCells P fs cs ds else some false) = some b → (Op.eqFields (d + 1) xs ys (f :: fs)).run P w = .ok b w := by
      intro u v r dd hu hv hd n1 n2 hr hb
      have p1 := pt hu (by rw [hd]; simpa using n1) (by rw [hd]; simpa using n2) hd
      have p2 := pt hv (by rw [hd]; simpa using n1) (by rw [hd]; simpa using n2) hd
      simp only [Op.eqFields, hn, ne_eq, not_false_eq_true, if_true, Sem.run_bind, p1, p2, Result.andThen_ok, hr]
      cases r with
      | true => simp only [if_true] at hb; simpa using eqCells_run hx hy hb d
      | false => simp at hb; subst hb; simp
    split at h
    · rename_i k a k' c k'' e1 e2 hd
      split at h
      case isFalse => cases h
      rename_i hk
      subst hk
      obtain ⟨u, v, hu, hv, r1, r2⟩ := key (r := true) e1 e2
      cases r1; cases r2
      exact step hu hv hd (by simp) (by simp) (run_equalIn_int w d f.type _ _ _ _ hd) h
    · rename_i a c e1 e2 hd
      obtain ⟨u, v, hu, hv, r1, r2⟩ := key (r := true) e1 e2
      cases r1; cases r2
      exact step hu hv hd (by simp) (by simp) (by rw [run_equalIn_string w d f.type _ _ hd, beq_str]) h
    · rename_i a c e1 e2 hd
      obtain ⟨u, v, hu, hv, r1, r2⟩ := key (r := true) e1 e2
      cases r1; cases r2
      exact step hu hv hd (by simp) (by simp) (run_equalIn_bool' w d f.type _ _ hd) h
    · cases h
variable {d : Option Tmp} {ty : TypeId} {pos : String} {af : Array Edge} {g : Option (Nat × Bool)} {ox oy oi : Operand} {T T' E U : TypeId}
theorem run_eq_agg {t : TypeId} {cs ds : List AV} {b : Bool} {G : Ghost} {w : World} {u v : Value} (hu : P.underlying t = some (.struct (P.fieldsOf t))) (hp : P.stoodInHeld t = false) (h : eqCells P (P.fieldsOf t).toList cs ds = some b) (h1 : Rel G u (.agg cs)) (h2 : Rel G v (.agg ds)) : (Op.equal t u v).run P w = .ok b w ∧ ∃ xs ys, u = .agg xs ∧ v = .agg ys := by
  cases h1 with | agg xs _ hl hr =>
  cases h2 with | agg ys _ hl' hr' =>
  refine ⟨?_, xs, ys, rfl, rfl⟩
  have hx : RelL G xs.toList cs := ⟨by simpa using hl, fun i v a e1 e2 => hr i v a (by simpa using e1) e2⟩
  have hy : RelL G ys.toList ds := ⟨by simpa using hl', fun i v a e1 e2 => hr' i v a (by simpa using e1) e2⟩
  show (Op.equalIn 10000 t (.agg xs) (.agg ys)).run P w = _
  rw [run_equalIn_struct w 9999 t xs ys hu hp]
  exact eqCells_run hx hy h 9998
theorem o_eql_st {cs ds : List AV} {b : Bool} (hu : P.underlying T = some (.struct (P.fieldsOf T))) (hp : P.stoodInHeld T = false) (hm : P.eqGuardType P.depth T = false) (h : eqCells P (P.fieldsOf T).toList cs ds = some b) (hx : aeval fr ox = .agg cs) (hy : aeval fr oy = .agg ds) : OpP P ⟨d, .binOp .eql T ox oy T', ty, pos, af, g⟩ fr (eB b) := fun τ => by
  refine OpS.of_run fun w0 G ρ w hI hr => ?_
  have r1 := hr ox (by simp [Op.operands])
  have r2 := hr oy (by simp [Op.operands])
  rw [hx] at r1; rw [hy] at r2
  obtain ⟨he, xs, ys, e1, e2⟩ := run_eq_agg (w := w) hu hp h r1 r2
  refine ⟨.bool b, w, G, ?_, .refl G, hI, .bool b⟩
  rw [e1, e2] at he
  have he' : (Op.equalIn 10000 T (.agg xs) (.agg ys)).run P w = .ok b w := he
  simp [execOp, e1, e2, Sem.run_bind, run_eqGuard_agg w _ _ _ _ _ _ hm, run_eql_struct, he']
theorem o_neq_st {cs ds : List AV} {b : Bool} (hu : P.underlying T = some (.struct (P.fieldsOf T))) (hp : P.stoodInHeld T = false) (hm : P.eqGuardType P.depth T = false) (h : eqCells P (P.fieldsOf T).toList cs ds = some b) (hx : aeval fr ox = .agg cs) (hy : aeval fr oy = .agg ds) : OpP P ⟨d, .binOp .neq T ox oy T', ty, pos, af, g⟩ fr (eB (!b)) := fun τ => by
  refine OpS.of_run fun w0 G ρ w hI hr => ?_
  have r1 := hr ox (by simp [Op.operands])
  have r2 := hr oy (by simp [Op.operands])
  rw [hx] at r1; rw [hy] at r2
  obtain ⟨he, xs, ys, e1, e2⟩ := run_eq_agg (w := w) hu hp h r1 r2
  refine ⟨.bool (!b), w, G, ?_, .refl G, hI, .bool _⟩
  rw [e1, e2] at he
  have he' : (Op.equalIn 10000 T (.agg xs) (.agg ys)).run P w = .ok b w := he
  simp [execOp, e1, e2, Sem.run_bind, run_eqGuard_agg w _ _ _ _ _ _ hm, run_neq_struct, he']
end
end Go.Va
namespace Go.Va
open Go Go.RowKit
set_option linter.unusedVariables false
set_option linter.unusedSimpArgs false
section
variable {P : Program} {Ty : TypeId → Option TI} {σ σ0 : St} {O : List (Nat × List AV)} {A : List Nat} {fr : Nat → AV} {d : Option Tmp} {ty : TypeId} {pos : String} {af : Array Edge} {g : Option (Nat × Bool)} {ox oy oi : Operand} {T T' E U : TypeId} {α : Type} {e : α → AV} {sz id off cap : Nat}
/-- Things that stand in a variable from a place on, and how many have room. -/
structure PartV (e : α → AV) (sz : Nat) (c : List AV) (off cap : Nat) (l : List α) : Prop where
  le : off + l.length * sz ≤ c.length
  at_ : (c.drop off).take (l.length * sz) = cL e l
  room : l.length ≤ cap
def vco (sz off cap l : Nat) : Nat := if cap = l then off else off + l * sz
theorem PartV.all (he : Enc Ty E sz e) {l : List α} (h : l.length ≤ cap) : PartV e sz (cL e l) 0 cap l :=
  have hl := cL_length he.len l
  ⟨by rw [hl]; omega, by rw [List.drop_zero, List.take_of_length_le (by rw [hl]; exact Nat.le_refl _)], h⟩
theorem PartV.cutN (he : Enc Ty E sz e) {c : List AV} {l : List α} (hp : PartV e sz c off cap l) {a b : Nat} (h1 : a ≤ b) (h2 : b ≤ l.length) : PartV e sz c (vco sz off cap a) (cap - a) ((l.take b).drop a) := by
  have hlen : ((l.take b).drop a).length = b - a := by rw [List.length_drop, List.length_take]; omega
  have hroom := hp.room
  have hle := hp.le
  have hab : (b - a) * sz = b * sz - a * sz := Nat.sub_mul _ _ _
  have hb : b * sz ≤ l.length * sz := Nat.mul_le_mul_right _ h2
  have ha : a * sz ≤ b * sz := Nat.mul_le_mul_right _ h1
  unfold vco
  by_cases hc : cap = a
  · rw [if_pos hc]
    have h0 : b - a = 0 := by omega
    refine ⟨by rw [hlen, h0]; omega, ?_, by omega⟩
    rw [hlen, h0, Nat.zero_mul, List.take_zero, List.eq_nil_of_length_eq_zero (hlen.trans h0)]
    rfl
  · rw [if_neg hc]
    refine ⟨by rw [hlen, hab]; omega, ?_, by omega⟩
    rw [hlen, ← cL_drop he.len, ← cL_take he.len, ← hp.at_, List.take_take, Nat.min_eq_left hb, List.drop_take, List.drop_drop, hab]
theorem PartV.cut (he : Enc Ty E sz e) {c : List AV} {l z : List α} (hp : PartV e sz c off cap l) {lo hi : Int} (h : cutO l lo hi = some z) : PartV e sz c (vco sz off cap lo.toNat) (cap - lo.toNat) z := by
  unfold cutO at h
  split at h <;> cases h
  exact hp.cutN he (by omega) (by omega)
theorem PartV.cutTo (he : Enc Ty E sz e) {c : List AV} {l z : List α} (hp : PartV e sz c off cap l) {hi : Int} (h : cutTo l hi = some z) : PartV e sz c (vco sz off cap 0) (cap - 0) z := by
  unfold Va.cutTo at h
  split at h <;> cases h
  exact hp.cutN he (a := 0) (by omega) (by omega)
theorem PartV.cutFrom (he : Enc Ty E sz e) {c : List AV} {l z : List α} (hp : PartV e sz c off cap l) {lo : Int} (h : cutFrom l lo = some z) : PartV e sz c (vco sz off cap lo.toNat) (cap - lo.toNat) z := by
  unfold Va.cutFrom at h
  split at h <;> cases h
  have := hp.cutN he (a := lo.toNat) (b := l.length) (by omega) (Nat.le_refl _)
  rwa [List.take_length] at this
theorem o_pcut (hT : TyOk P Ty) {l z : List α} {kl kh : IntKind} {lo hi : Int} {ol oh : Operand} (h : cutO l lo hi = some z) (hr : l.length ≤ cap) (hd : tdOf Ty T = .slice E) (he : Enc Ty E sz e) (hx : aeval fr ox = .vc id sz off l.length cap) (hl : aeval fr ol = .int kl lo) (hh : aeval fr oh = .int kh hi) : OpP P ⟨d, .slice T ox (some ol) (some oh) none, ty, pos, af, g⟩ fr (.vc id sz (vco sz off cap lo.toNat) z.length (cap - lo.toNat)) := by
  unfold cutO at h
  split at h <;> cases h
  have e1 : ((l.take hi.toNat).drop lo.toNat).length = hi.toNat - lo.toNat := by rw [List.length_drop, List.length_take]; omega
  rw [e1]
  exact o_vcs hT lo.toNat hi.toNat cap hd he.ty he.pos hx (by rw [Option.map_some, hl]; exact abnd_i _ (by omega)) (by rw [Option.map_some, hh]; exact abnd_i _ (by omega)) rfl (fun h => by cases h) (by omega) (by omega) (Nat.le_refl _)
theorem o_pcutTo (hT : TyOk P Ty) {l z : List α} {kh : IntKind} {hi : Int} {oh : Operand} (h : cutTo l hi = some z) (hr : l.length ≤ cap) (hd : tdOf Ty T = .slice E) (he : Enc Ty E sz e) (hx : aeval fr ox = .vc id sz off l.length cap) (hh : aeval fr oh = .int kh hi) : OpP P ⟨d, .slice T ox none (some oh) none, ty, pos, af, g⟩ fr (.vc id sz (vco sz off cap 0) z.length (cap - 0)) := by
  unfold Va.cutTo at h
  split at h <;> cases h
  have e1 : (l.take hi.toNat).length = hi.toNat - 0 := by rw [List.length_take]; omega
  rw [e1]
  exact o_vcs hT 0 hi.toNat cap hd he.ty he.pos hx rfl (by rw [Option.map_some, hh]; exact abnd_i _ (by omega)) rfl (fun h => by cases h) (by omega) (by omega) (Nat.le_refl _)
theorem o_pcutFrom (hT : TyOk P Ty) {l z : List α} {kl : IntKind} {lo : Int} {ol : Operand} (h : cutFrom l lo = some z) (hr : l.length ≤ cap) (hd : tdOf Ty T = .slice E) (he : Enc Ty E sz e) (hx : aeval fr ox = .vc id sz off l.length cap) (hl : aeval fr ol = .int kl lo) : OpP P ⟨d, .slice T ox (some ol) none none, ty, pos, af, g⟩ fr (.vc id sz (vco sz off cap lo.toNat) z.length (cap - lo.toNat)) := by
  unfold Va.cutFrom at h
  split at h <;> cases h
  have e1 : (l.drop lo.toNat).length = l.length - lo.toNat := List.length_drop
  rw [e1]
  exact o_vcs hT lo.toNat l.length cap hd he.ty he.pos hx (by rw [Option.map_some, hl]; exact abnd_i _ (by omega)) rfl rfl (fun h => by cases h) (by omega) (by omega) (Nat.le_refl _)
theorem o_pix (hT : TyOk P Ty) {l : List α} {y : α} {kk : IntKind} {i : Int} (h : ix l i = some y) (hd : tdOf Ty T = .slice E) (he : Enc Ty E sz e) (hx : aeval fr ox = .vc id sz off l.length cap) (hi : aeval fr oi = .int kk i) : OpP P ⟨d, .indexAddr T ox oi, ty, pos, af, g⟩ fr (.ref id (off + i.toNat * sz)) := fun τ => by
  obtain ⟨h0, h1⟩ := ix_some h
  have h2 := (List.getElem?_eq_some_iff.1 h1).1
  refine OpS.of_aop2 hT rfl (aeval fr) (fun x _ => Wk.refl _) (a := .ref id (off + i.toNat * sz)) ?_ (Wk.refl _)
  simp only [aop2, hx, hi, aindexAddr2, hd]
  rw [if_pos ⟨h0, by omega, he.ty.symm, he.pos⟩]
  rfl
theorem acut_drop {c : List AV} {off o : Nat} : acut Ty T (c.drop off) o = acut Ty T c (off + o) ∨ ¬ off ≤ c.length := by
  by_cases h : off ≤ c.length
  · refine .inl ?_
    unfold acut
    cases Ty T with
    | none => rfl
    | some i =>
      simp only
      split
      · rw [List.length_drop, List.drop_drop]
        by_cases h2 : o + i.sz ≤ c.length - off
        · rw [if_pos h2, if_pos (by omega)]
        · rw [if_neg h2, if_neg (by omega)]
      · rw [List.getElem?_drop]
  · exact .inr h
theorem acut_take {c : List AV} {n o : Nat} {a : AV} (h : acut Ty T (c.take n) o = some a) : acut Ty T c o = some a := by
  unfold acut at h ⊢
  split
  · rename_i i hi
    rw [hi] at h
    simp only at h ⊢
    split
    · rename_i hg
      rw [if_pos hg] at h
      split at h
      · rename_i hle
        rw [List.length_take] at hle
        rw [if_pos (by omega)]
        rw [← h, List.drop_take, List.take_take, Nat.min_eq_left (by omega)]
      · cases h
    · rename_i hg
      rw [if_neg hg, List.getElem?_take] at h
      split at h
      · exact h
      · cases h
  · rename_i hi; rw [hi] at h; cases h
theorem h_pld (hT : TyOk P Ty) (hH : Holds σ0 O A σ) (k : Nat) {c : List AV} {l : List α} {i : Int} {y : α} (hk : O[k]? = some (id, c)) (hp : PartV e sz c off cap l) (h : ix l i = some y) (he : Enc Ty E sz e) (hs : (Ty E).isSome = true) (hx : aeval fr ox = .ref id (off + i.toNat * sz)) :
    OpS P ⟨d, .load E ox, ty, pos, af, g⟩ fr σ (fun a' τ => a' = e y ∧ τ = σ) := by
  obtain ⟨h0, h1⟩ := ix_some h
  refine h_ld hT hH k hk ?_ hx
  have h2 := acut_at0 he hs h1
  rw [← hp.at_] at h2
  have h3 := acut_take h2
  rcases acut_drop (Ty := Ty) (T := E) (c := c) (off := off) (o := i.toNat * sz) with h4 | h4
  · rw [← h4]; exact h3
  · exact absurd (by have := hp.le; omega) h4
theorem BArg.vcl (hH : Holds σ0 O A σ) (k : Nat) {c : List AV} {l : List α} (hk : O[k]? = some (id, c)) (hp : PartV e sz c off cap l) (he : Enc Ty E sz e) (hpu : ∀ x, purA (e x) = true) : BArg σ (.vc id sz off l.length cap) (eL sz e l) :=
  .vc (es := l.map e) (hH.at_ k hk) hp.le hp.at_ (by rw [List.length_map]) (fun y hy => by obtain ⟨x, _, rfl⟩ := List.mem_map.1 hy; exact he.len x) he.pos (purL_iff.2 fun y hy => by obtain ⟨x, _, rfl⟩ := List.mem_map.1 hy; exact hpu x)
theorem wk_vcm (id off n cap : Nat) : Wk (.vc id 1 off n cap) (.msl id off n) := fun G v h => by
  cases h with
  | vc _ _ _ _ _ b hc hm hl hs => exact .msl id off n cap b hc hl
/-- What is appended to a slice that is full, or to none, may be a part of a variable. -/
theorem h_app0p (hT : TyOk P Ty) (hH : Holds σ0 O A σ) (k : Nat) {i : TI} {c : List AV} {l m z : List α} {t : Nat} (h : app i.bytes l m = some z) (hk : O[k]? = some (id, c)) (hp : PartV e 1 c off cap m) (he : Enc Ty E 1 e) (hna : isAggTD (tdOf Ty E) = false) (hdU : tdOf Ty U = .slice E) (hd : tdOf Ty T = .slice E) (hi : Ty E = some i) (hsz : i.sz = 1) (hb : 0 < i.bytes) (hne : ox ≠ .tmp t) (hx : (aeval fr ox = .nils ∧ l = []) ∨ aeval fr ox = .sl .full 1 (l.map e)) (hy : fr t = .vc id 1 off m.length cap) :
    ∃ t' τ, OpS P ⟨d, .call ⟨.builtin .append, #[ox, .tmp t], #[T, U]⟩, ty, pos, af, g⟩ fr σ (fun a' τ' => a' = (fun t => eT t 1 e z) t' ∧ τ' = τ) ∧ Holds σ0 O (t' :: A) τ := by
  let fr' : Nat → AV := fun u => if u = t then .msl id off m.length else fr u
  have hw : WkF fr fr' := fun u => by
    by_cases hu : u = t
    · subst hu; simp only [fr', if_true, hy]; exact wk_vcm _ _ _ _
    · simp only [fr', if_neg hu]; exact Wk.refl _
  have hox : aeval fr' ox = aeval fr ox := by
    cases ox with
    | tmp u => have : u ≠ t := fun h => hne (by rw [h]); simp only [aeval, fr', if_neg this]
    | _ => rfl
  have hoy : aeval fr' (.tmp t) = .msl id off m.length := by simp only [aeval, fr', if_true]
  have hflat : cL e m = m.map e := by
    unfold cL
    exact flat_one fun a ha => by obtain ⟨x, _, rfl⟩ := List.mem_map.1 ha; exact he.one hna x
  have hat := hp.at_
  have hle := hp.le
  rw [Nat.mul_one] at hat hle
  obtain ⟨t', τ, h1, h2⟩ := h_app0 (P := P) (d := d) (ty := ty) (pos := pos) (af := af) (g := g) (oy := .tmp t) (U := U) hT hH h hd hi hsz hb (by rw [hox]; exact hx) (src_m hdU (hH.at_ k hk) (by rw [hat, hflat]) hle hoy)
  exact ⟨t', τ, h1.wk hw, h2⟩
theorem wk_vecno (id sz : Nat) : Wk (.vec id sz 0) (.sl .no sz []) := fun G v h => by
  cases h with
  | vec0 A _ _ => exact .sl0 A 0 .no sz (Nat.zero_le _) (.inl rfl)
  | vec _ _ _ c b h0 _ _ _ _ => omega
end
end Go.Va
namespace Go.Va
open Go Go.RowKit
/-! ### as many noughts, appended -/
theorem zeros_cells (n : Nat) : Builtin.zeroCells #[Value.int .u8 0] n = Array.replicate n (Value.int .u8 0) := by
  unfold Builtin.zeroCells
  apply Array.ext
  · simp
  · intro i h1 h2
    simp [Nat.mod_one]
theorem zeros_size (n : Nat) : (ByteArray.mk (Array.replicate n (0 : UInt8))).size = n := by simp [ByteArray.size]
theorem zeros_bytes (n : Nat) : ((ByteArray.mk (Array.replicate n (0 : UInt8))).extract 0 n).data.map (fun b => Value.int .u8 b.toNat) = Array.replicate n (Value.int .u8 0) := by
  have : (ByteArray.mk (Array.replicate n (0 : UInt8))).extract 0 n = ByteArray.mk (Array.replicate n (0 : UInt8)) := by
    have h2 := ByteArray.extract_zero_size (b := ByteArray.mk (Array.replicate n (0 : UInt8)))
    rwa [zeros_size] at h2
  rw [this]
  simp
theorem append_zeros {P : Program} (w : World) {t tn ts ty E : TypeId} {kn k : IntKind} {ti : TypeInfo} {z : Value} {n : Nat} {base : Option Addr} {sLen sCap : Nat} (ht : P.underlying t = some (.slice E)) (htn : P.underlying tn = some (.int kn)) (hts : P.underlying ts = some .string) (hi : P.info? E = some ti) (hsz : ti.size = 1) (hb : ti.bytes = 1) (hz : ti.zero = some z) (hzc : z.cells = #[.int .u8 0]) (hn : sLen + n ≤ 140737488355328) (hfit : sCap < sLen + n → Builtin.nextslicecap (sLen + n) sCap ≤ 281474976710656) :
    (Builtin.append_ #[t, tn] ty #[.slice base sLen sCap, .int k n]).run P w = (Builtin.append_ #[t, ts] ty #[.slice base sLen sCap, .string ⟨Array.replicate n 0⟩]).run P w := by
  have hw : IntKind.i64.wrap (n : Int) = n := by rw [IntKind.wrap_i64]; omega
  have hneg : ¬ ((n : Int) < 0) := by omega
  have h48i : ¬ (281474976710656 < (n : Int)) := by omega
  have h63 : ¬ (9223372036854775807 < (sLen : Int) + (n : Int)) := by omega
  have hsize := zeros_size n
  have hza := zeros_cells n
  have hzb := zeros_bytes n
  by_cases hc : sLen + n ≤ sCap
  · by_cases h0 : n = 0
    · subst h0
      have hc' : sLen ≤ sCap := hc
      have hw0 : IntKind.i64.wrap 0 = 0 := by rw [IntKind.wrap_i64]; omega
      have hs0 : (ByteArray.mk #[]).size = 0 := rfl
      simp [hw0, hs0, hc', Builtin.append_, run_underlying ht, run_underlying htn, run_underlying hts, sizeOf, typeInfo, zeroValue, hi, hz, hzc, asInt, asIntOf, hsz, hb, Builtin.lenOf, Builtin.firstCells, Builtin.zeroCells]
      try rfl
    · simp [hc, Builtin.append_, run_underlying ht, run_underlying htn, run_underlying hts, sizeOf, typeInfo, zeroValue, hi, hz, hzc, asInt, asIntOf, hw, hneg, hsz, hb, h48i, h63, Builtin.lenOf, hsize, Builtin.firstCells, hza, hzb, h0]
      try rfl
  · have hf : ¬ (281474976710656 < Builtin.nextslicecap (sLen + n) sCap) := by have := hfit (by omega); omega
    by_cases h0 : n = 0
    · subst h0
      have hc' : ¬ sLen ≤ sCap := hc
      have hw0 : IntKind.i64.wrap 0 = 0 := by rw [IntKind.wrap_i64]; omega
      have hs0 : (ByteArray.mk #[]).size = 0 := rfl
      have h63' : ¬ (9223372036854775807 < (sLen : Int)) := by omega
      have hf' : ¬ (281474976710656 < Builtin.nextslicecap sLen sCap) := hf
      simp [hw0, hs0, hc', h63', hf', Builtin.append_, run_underlying ht, run_underlying htn, run_underlying hts, sizeOf, typeInfo, zeroValue, hi, hz, hzc, asInt, asIntOf, hsz, hb, Builtin.lenOf, Builtin.firstCells, Builtin.zeroCells]
      try rfl
    · simp [hc, Builtin.append_, run_underlying ht, run_underlying htn, run_underlying hts, sizeOf, typeInfo, zeroValue, hi, hz, hzc, asInt, asIntOf, hw, hneg, hsz, hb, h48i, h63, Builtin.lenOf, hsize, Builtin.firstCells, hf, hza, hzb, h0]
      try rfl
section
variable {P : Program} {Ty : TypeId → Option TI} {σ σ0 : St} {O : List (Nat × List AV)} {A : List Nat} {fr : Nat → AV} {d : Option Tmp} {ty : TypeId} {pos : String} {af : Array Edge} {g : Option (Nat × Bool)} {ox oy : Operand} {T E U S : TypeId}
theorem OpS.appz (hT : TyOk P Ty) {i : TI} {k kU : IntKind} {m : Nat} {a : AV} {σ' : St} (hd : tdOf Ty T = .slice E) (hi : Ty E = some i) (hz : i.zero = .int .u8 0) (hsz : i.sz = 1) (hb : i.bytes = 1) (hU : tdOf Ty U = .int kU) (hS : tdOf Ty S = .str) (hy : aeval fr oy = .int k m) (h : aappend Ty T S (aeval fr ox) (.str ⟨Array.replicate m 0⟩) σ = some (a, σ')) :
    OpS P ⟨d, .call ⟨.builtin .append, #[ox, oy], #[T, U]⟩, ty, pos, af, g⟩ fr σ (fun a' τ => a' = a ∧ τ = σ') := by
  refine OpS.of_run fun w0 G ρ w hI hr => ?_
  have hrx := hr ox (by simp [Op.operands, Call.operands])
  have hry := hr oy (by simp [Op.operands, Call.operands])
  obtain ⟨v, w', G', h1, h2, h3, h4⟩ := aappend_sound hT hI T S ty hrx (.str ⟨Array.replicate m 0⟩) h
  obtain ⟨hd2, ti, z, g1, g2, g3, g4, g5, g6, g7, g8⟩ := hT E i hi
  rw [hy] at hry
  generalize hvy : ρ oy = vy at hry
  cases hry
  unfold aappend at h
  rw [hd] at h
  simp only [hi] at h
  split at h
  case h_2 => cases h
  rename_i k0 es ys hbs hs
  split at h
  case isFalse => cases h
  rename_i hby
  obtain ⟨A0, c0, olds, hR, hroom⟩ := baseOf_sound hI hrx hbs
  have hys : ys.length = m := by
    simp only [srcOf, hS, hsz, if_true, Option.some.injEq] at hs
    rw [← hs, byteAVs, List.length_map, Array.length_toList]
    exact zeros_size m
  rw [hys, hb, Nat.mul_one] at hby
  have hzc : z.cells = #[.int .u8 0] := by
    have h6 := g6
    rw [hsz] at h6
    have h5 := g5 G
    rw [hz] at h5
    apply Array.ext'
    cases hzl : z.cells.toList with
    | nil => have : z.cells.size = 0 := by rw [← Array.length_toList, hzl]; rfl
             omega
    | cons u us =>
      have : us = [] := by
        have : z.cells.size = (u :: us).length := by rw [← Array.length_toList, hzl]
        rw [h6] at this
        exact List.eq_nil_of_length_eq_zero (by simpa using this.symm)
      subst this
      rw [hzl] at h5
      have h7 := h5.at_ 0 u _ rfl rfl
      cases h7
      rfl
  have hrun := append_zeros (P := P) w (ty := ty) (k := k) (base := A0) (sLen := es.length) (sCap := c0) (n := m) (tdOf_ok hT hd (by simp)) (tdOf_ok hT hU (by simp)) (tdOf_ok hT hS (by simp)) g1 (by rw [g2, hsz]) (by rw [g3, hb]) g4 hzc (by omega) (fun hlt => by have := growslice_fits (bytes := 1) hlt (by omega); omega)
  rw [← hR.val, h1] at hrun
  exact ⟨v, w', G', by simp [execOp, resolve, invoke, builtin, hvy, hrun], h2, h3, h4⟩
theorem mkS_some {α : Type} {b : Nat} {m : Int} {z : α} {x : List α} (h : mkS b m z = some x) : 0 ≤ m ∧ x = List.replicate m.toNat z := by
  unfold mkS at h
  split at h <;> cases h
  exact ⟨by omega, rfl⟩
theorem zeros_av (m : Nat) : byteAVs ⟨Array.replicate m 0⟩ = (List.replicate m (0#8 : BitVec 8)).map (eU .u8) := by
  simp [byteAVs, eU]
theorem h_appz (hT : TyOk P Ty) (hH : Holds σ0 O A σ) (k : Nat) {i : TI} {kk kU : IntKind} {tk : Nat} {v : Int} {l m z : List (BitVec 8)} (hw : mkS 1 v (0#8 : BitVec 8) = some m) (h : app i.bytes l m = some z) (hk : A[k]? = some tk) (hd : tdOf Ty T = .slice E) (hi : Ty E = some i) (hsz : i.sz = 1) (hb : i.bytes = 1) (hz : i.zero = .int .u8 0) (hU : tdOf Ty U = .int kU) (hS : tdOf Ty S = .str) (hx : aeval fr ox = .sl (.own tk) 1 (l.map (eU .u8))) (hy : aeval fr oy = .int kk v) :
    ∃ t τ, OpS P ⟨d, .call ⟨.builtin .append, #[ox, oy], #[T, U]⟩, ty, pos, af, g⟩ fr σ (fun a' τ' => a' = (fun t => eT t 1 (eU .u8 (w := 8)) z) t ∧ τ' = τ) ∧ Holds σ0 O (A.set k t) τ := by
  obtain ⟨h0, rfl⟩ := mkS_some hw
  obtain ⟨h1, rfl⟩ := app_some h
  have ho := hH.open_ k hk
  refine ⟨_, _, OpS.appz (k := kk) (m := v.toNat) (a := eT σ.opn.length 1 (eU .u8) (l ++ List.replicate v.toNat 0#8)) (σ' := σ.tok tk) hT hd hi hz hsz hb hU hS (by rw [hy, Int.toNat_of_nonneg h0]) ?_, hH.turn k hk⟩
  simp only [aappend, hx, hd, hi, baseOf, ho, hsz, and_self, if_true, srcOf, hS, zeros_av, List.length_map]
  rw [if_pos ⟨by omega, h1⟩, ← List.map_append]
  rfl
theorem h_appz0 (hT : TyOk P Ty) (hH : Holds σ0 O A σ) {i : TI} {kk kU : IntKind} {v : Int} {l m z : List (BitVec 8)} (hw : mkS 1 v (0#8 : BitVec 8) = some m) (h : app i.bytes l m = some z) (hd : tdOf Ty T = .slice E) (hi : Ty E = some i) (hsz : i.sz = 1) (hb : i.bytes = 1) (hz : i.zero = .int .u8 0) (hU : tdOf Ty U = .int kU) (hS : tdOf Ty S = .str) (hx : (aeval fr ox = .nils ∧ l = []) ∨ aeval fr ox = .sl .full 1 (l.map (eU .u8))) (hy : aeval fr oy = .int kk v) :
    ∃ t τ, OpS P ⟨d, .call ⟨.builtin .append, #[ox, oy], #[T, U]⟩, ty, pos, af, g⟩ fr σ (fun a' τ' => a' = (fun t => eT t 1 (eU .u8 (w := 8)) z) t ∧ τ' = τ) ∧ Holds σ0 O (t :: A) τ := by
  obtain ⟨h0, rfl⟩ := mkS_some hw
  obtain ⟨h1, rfl⟩ := app_some h
  refine ⟨_, _, OpS.appz (k := kk) (m := v.toNat) (a := eT σ.opn.length 1 (eU .u8) (l ++ List.replicate v.toNat 0#8)) (σ' := σ.more) hT hd hi hz hsz hb hU hS (by rw [hy, Int.toNat_of_nonneg h0]) ?_, hH.more⟩
  rcases hx with ⟨hx, rfl⟩ | hx
  · simp only [List.length_nil] at h1
    simp only [aappend, hx, hd, hi, baseOf, hsz, if_true, srcOf, hS, zeros_av, List.length_map, List.length_nil]
    rw [if_pos ⟨by omega, h1⟩]
    rfl
  · simp only [aappend, hx, hd, hi, baseOf, hsz, if_true, srcOf, hS, zeros_av, List.length_map]
    rw [if_pos ⟨by omega, h1⟩, ← List.map_append]
    rfl
end
end Go.Va
namespace Go.Va
open Go Go.RowKit
/-! ### append to nothing, or to what is full: a slice that never changes -/
section
variable {P : Program} {Ty : TypeId → Option TI}
theorem aappendP_sound (hT : TyOk P Ty) {w0 : World} {G : Ghost} {w : World} {σ : St} (hI : Inv w0 G w σ) (t tx ty : TypeId) {e : TypeId} {i : TI} {x y : AV} {vx vy : Value} (hd : tdOf Ty t = .slice e) (hi : Ty e = some i) (hx : Rel G vx x) (hy : Rel G vy y) {es ys : List AV}
    (hb : (x = .nils ∧ es = []) ∨ x = .sl .full i.sz es) (hs : srcOf Ty tx i.sz σ y = some ys) (hb0 : 0 < i.bytes) (hb1 : (es.length + ys.length) * i.bytes ≤ 140737488355328) :
    ∃ v w' G', (Builtin.append_ #[t, tx] ty #[vx, vy]).run P w = .ok v w' ∧ G.Le G' ∧ Inv w0 G' w' σ ∧ Rel G' v (.sl .no i.sz (es ++ ys)) := by
  obtain ⟨hd2, ti, z, g1, g2, g3, g4, g5, g6, g7, g8⟩ := hT e i hi
  have ht := tdOf_ok hT hd (by simp)
  have hbase : baseOf i.sz σ x = some (.full, es) := by
    rcases hb with ⟨rfl, rfl⟩ | rfl
    · rfl
    · simp [baseOf]
  obtain ⟨A, c, olds, hR, hroom⟩ := baseOf_sound hI hx hbase
  have hc : es.length = c := by
    rcases hroom with h | ⟨_, _, _, h, _⟩
    · exact h
    · cases h
  obtain ⟨news, hS, hN, hyz⟩ := srcOf_sound hT hI hy hs
  have hS' : Src P ti.size tx vy ys.length news w := by rw [g2]; exact hS
  have hnl : news.length = ys.length * i.sz := hS.newsLen
  have hz : ∀ e ∈ es ++ ys, e.cells.length = i.sz := fun e he => (List.mem_append.1 he).elim (hR.hz e) (hyz e)
  have hrel : RelL G (olds ++ news) (flat (es ++ ys)) := by rw [flat_append]; exact hR.rel.append hN
  have hmx : es.length + ys.length ≤ 140737488355328 := by
    calc es.length + ys.length = (es.length + ys.length) * 1 := (Nat.mul_one _).symm
      _ ≤ (es.length + ys.length) * i.bytes := Nat.mul_le_mul_left _ hb0
      _ ≤ _ := hb1
  have hlen2 : (es ++ ys).length = es.length + ys.length := List.length_append
  have h1o := hR.one hI
  by_cases hfit : es.length + ys.length ≤ c
  · have hys : ys = [] := List.eq_nil_of_length_eq_zero (by omega)
    subst hys
    have hnn : news = [] := List.eq_nil_of_length_eq_zero (by rw [hnl]; simp)
    subst hnn
    have hrun := run_append_nothing (P := P) w t tx ty e ti ht g1 A es.length c hR.le vy hS'
    rw [← hR.val] at hrun
    refine ⟨vx, w, G, hrun, .refl G, hI, ?_⟩
    rw [List.append_nil]
    rcases Nat.eq_zero_or_pos es.length with hz0 | hz0
    · have : es = [] := List.eq_nil_of_length_eq_zero hz0
      subst this
      rw [hR.val]
      exact .sl0 A c _ _ hR.max (.inl rfl)
    · obtain ⟨b, o, rfl, hf⟩ := hR.at_ hz0
      rw [hR.val]
      exact Rel.mkSl hR.le hR.max hR.hz hR.rel hf trivial
  · have hold : (Builtin.firstCells ti.size es.length (.slice A es.length c)).run P w.drew = .ok olds.toArray w.drew := by
      have := (hR.src hI.drew ht).cells
      rw [hR.val, ← g2] at this
      exact this
    have hrun := run_append_grow_src (P := P) w t tx ty e ti z ht g1 g4 A es.length c olds hold vy ys.length news hS' (by omega) (by omega) (growslice_fits (by omega) (by rw [g3]; exact hb1))
    rw [← hR.val] at hrun
    have hge := grownCap_ge w (es.length + ys.length) c e
    have hcm := grownCap_le_maxLen w (es.length + ys.length) c e (by simp only [maxLen]; omega)
    have hL : (olds ++ news).length = (es.length + ys.length) * i.sz := by rw [List.length_append, hR.len, hnl, Nat.add_mul]
    have hz1 : ∀ u ∈ (Builtin.zeroCells z.cells (grownCap w (es.length + ys.length) c e - (es.length + ys.length))).toList, u.oneCell' = true := fun u hu => by
      unfold Builtin.zeroCells at hu
      simp only [Array.toList_map, List.mem_map] at hu
      obtain ⟨k, hk, rfl⟩ := hu
      have hk2 : k < (grownCap w (es.length + ys.length) c e - (es.length + ys.length)) * z.cells.size := by simpa using hk
      have hzs : 0 < z.cells.size := by
        rcases Nat.eq_zero_or_pos z.cells.size with h | h
        · rw [h] at hk2; simp at hk2
        · exact h
      have hlt := Nat.mod_lt k hzs
      rw [getElem!_pos z.cells (k % z.cells.size) hlt]
      rw [Array.all_eq_true] at g8
      exact g8 _ hlt
    obtain ⟨hle, hI'⟩ := hI.drew.alloc_fz ((olds ++ news).toArray ++ Builtin.zeroCells z.cells (grownCap w (es.length + ys.length) c e - (es.length + ys.length))) e (fun v hv => by
      rw [Array.toList_append, List.toList_toArray] at hv
      exact (List.mem_append.1 hv).elim (fun hv => (List.mem_append.1 hv).elim (h1o v) (hS.one v)) (hz1 v)) (0, 0)
    refine ⟨_, _, _, hrun, hle, hI', ?_⟩
    have key := Rel.mkSl (b := w.heap.size) (o := 0) (t := .no) (c := grownCap w (es.length + ys.length) c e) (by rw [hlen2]; exact hge) hcm hz (hrel.mono hle) (fun j u hu => by
      simp only [Ghost.addRow, World.size_drew, if_true, Nat.zero_add]
      rw [Array.toList_append, List.toList_toArray, List.getElem?_append_left (List.getElem?_eq_some_iff.1 hu).1]
      exact hu) trivial
    rw [hlen2] at key
    exact key
variable {σ σ0 : St} {O : List (Nat × List AV)} {A : List Nat} {fr : Nat → AV} {d : Option Tmp} {ty : TypeId} {pos : String} {af : Array Edge} {g : Option (Nat × Bool)} {ox oy : Operand} {T E U S : TypeId} {α : Type} {e : α → AV} {sz id off cap : Nat}
theorem OpS.app1 (hT : TyOk P Ty) {i : TI} {l m z : List α} (h : app i.bytes l m = some z) (hd : tdOf Ty T = .slice E) (hi : Ty E = some i) (hsz : i.sz = sz) (hb : 0 < i.bytes) (hx : (aeval fr ox = .nils ∧ l = []) ∨ aeval fr ox = .sl .full sz (l.map e)) (hs : SrcOk Ty U sz σ (aeval fr oy) (m.map e)) :
    OpS P ⟨d, .call ⟨.builtin .append, #[ox, oy], #[T, U]⟩, ty, pos, af, g⟩ fr σ (fun a' τ => a' = eL sz e z ∧ τ = σ) := by
  subst hsz
  obtain ⟨h1, rfl⟩ := app_some h
  refine OpS.of_run fun w0 G ρ w hI hr => ?_
  have hrx := hr ox (by simp [Op.operands, Call.operands])
  have hry := hr oy (by simp [Op.operands, Call.operands])
  obtain ⟨v, w', G', k1, k2, k3, k4⟩ := aappendP_sound hT hI T U ty hd hi hrx hry (es := l.map e) (ys := m.map e) (by
    rcases hx with ⟨hx0, rfl⟩ | hx0
    · exact .inl ⟨hx0, rfl⟩
    · exact .inr hx0) hs hb (by simpa using h1)
  refine ⟨v, w', G', by simp [execOp, resolve, invoke, builtin, k1], k2, k3, ?_⟩
  rw [eL, List.map_append]
  exact k4
/-- To nothing, or to what is full, what never changes is appended. -/
theorem o_app1 (hT : TyOk P Ty) {i : TI} {k : Tok} {l m z : List α} (h : app i.bytes l m = some z) (hd : tdOf Ty T = .slice E) (hdU : tdOf Ty U = .slice E) (hi : Ty E = some i) (hsz : i.sz = sz) (hb : 0 < i.bytes) (hx : (aeval fr ox = .nils ∧ l = []) ∨ aeval fr ox = .sl .full sz (l.map e)) (hy : aeval fr oy = .sl k sz (m.map e)) :
    OpP P ⟨d, .call ⟨.builtin .append, #[ox, oy], #[T, U]⟩, ty, pos, af, g⟩ fr (eL sz e z) := fun τ => OpS.app1 hT h hd hi hsz hb hx (src_l hdU hy)
theorem o_app1s (hT : TyOk P Ty) {i : TI} {l m z : List (BitVec 8)} (h : app i.bytes l m = some z) (hd : tdOf Ty T = .slice E) (hdU : tdOf Ty U = .str) (hi : Ty E = some i) (hsz : i.sz = 1) (hb : 0 < i.bytes) (hx : (aeval fr ox = .nils ∧ l = []) ∨ aeval fr ox = .sl .full 1 (l.map (eU .u8))) (hy : aeval fr oy = eS m) :
    OpP P ⟨d, .call ⟨.builtin .append, #[ox, oy], #[T, U]⟩, ty, pos, af, g⟩ fr (eL 1 (eU .u8 (w := 8)) z) := fun τ => OpS.app1 hT h hd hi hsz hb hx (src_s hdU hy)
/-- A part of a variable is appended. -/
theorem h_app1p (hT : TyOk P Ty) (hH : Holds σ0 O A σ) (k : Nat) {i : TI} {c : List AV} {l m z : List α} {t : Nat} (h : app i.bytes l m = some z) (hk : O[k]? = some (id, c)) (hp : PartV e 1 c off cap m) (he : Enc Ty E 1 e) (hna : isAggTD (tdOf Ty E) = false) (hdU : tdOf Ty U = .slice E) (hd : tdOf Ty T = .slice E) (hi : Ty E = some i) (hsz : i.sz = 1) (hb : 0 < i.bytes) (hne : ox ≠ .tmp t) (hx : (aeval fr ox = .nils ∧ l = []) ∨ aeval fr ox = .sl .full 1 (l.map e)) (hy : fr t = .vc id 1 off m.length cap) :
    OpS P ⟨d, .call ⟨.builtin .append, #[ox, .tmp t], #[T, U]⟩, ty, pos, af, g⟩ fr σ (fun a' τ => a' = eL 1 e z ∧ τ = σ) := by
  let fr' : Nat → AV := fun u => if u = t then .msl id off m.length else fr u
  have hw : WkF fr fr' := fun u => by
    by_cases hu : u = t
    · subst hu; simp only [fr', if_true, hy]; exact wk_vcm _ _ _ _
    · simp only [fr', if_neg hu]; exact Wk.refl _
  have hox : aeval fr' ox = aeval fr ox := by
    cases ox with
    | tmp u => have : u ≠ t := fun h => hne (by rw [h]); simp only [aeval, fr', if_neg this]
    | _ => rfl
  have hoy : aeval fr' (.tmp t) = .msl id off m.length := by simp only [aeval, fr', if_true]
  have hflat : cL e m = m.map e := by
    unfold cL
    exact flat_one fun a ha => by obtain ⟨x, _, rfl⟩ := List.mem_map.1 ha; exact he.one hna x
  have hat := hp.at_
  have hle := hp.le
  rw [Nat.mul_one] at hat hle
  exact OpS.wk hw (OpS.app1 (fr := fr') hT h hd hi hsz hb (by rw [hox]; exact hx) (src_m hdU (hH.at_ k hk) (by rw [hat, hflat]) hle hoy))
end
end Go.Va
namespace Go.Va
open Go Go.RowKit
/-! ### a slice that never changes, cut with three bounds -/
def cut3 {α : Type} (l : List α) (k h m : Int) : Option (List α) := if 0 ≤ k ∧ k ≤ h ∧ h ≤ m ∧ m ≤ l.length then some ((l.take h.toNat).drop k.toNat) else none
theorem Rel.lessCap {G : Ghost} {B : Option Addr} {n c1 c2 sz : Nat} {t : Tok} {es : List AV} (h : Rel G (.slice B n c1) (.sl t sz es)) (h2 : es.length ≤ c2) (h3 : c2 ≤ maxLen) : Rel G (.slice B n c2) (.sl .no sz es) := by
  cases h with
  | sl b o c t sz es val hc hm hz hf hr ht => exact .sl b o c2 .no sz es val h2 h3 hz hf hr trivial
  | sl0 A c t sz hm ht => exact .sl0 B c2 .no sz h3 (.inl rfl)
section
variable {P : Program} {Ty : TypeId → Option TI} {σ : St} {fr : Nat → AV} {d : Option Tmp} {ty : TypeId} {pos : String} {af : Array Edge} {g : Option (Nat × Bool)} {ox oy : Operand} {T E : TypeId} {α : Type} {e : α → AV} {sz : Nat} {k : Tok}
theorem o_cut3 (hT : TyOk P Ty) {l z : List α} {kl kh km : IntKind} {lo hi mx : Int} {ol oh om : Operand} (h : cut3 l lo hi mx = some z) (hd : tdOf Ty T = .slice E) (he : Enc Ty E sz e) (hx : aeval fr ox = .sl k sz (l.map e)) (hl : aeval fr ol = .int kl lo) (hh : aeval fr oh = .int kh hi) (hm : aeval fr om = .int km mx) : OpP P ⟨d, .slice T ox (some ol) (some oh) (some om), ty, pos, af, g⟩ fr (eL sz e z) := fun τ => by
  unfold cut3 at h
  split at h <;> cases h
  rename_i hc
  obtain ⟨c1, c2, c3, c4⟩ := hc
  refine OpS.of_run fun w0 G ρ w hI hr => ?_
  have hrx := hr ox (by simp [Op.operands])
  have hrl := hr ol (by simp [Op.operands])
  have hrh := hr oh (by simp [Op.operands])
  have hrm := hr om (by simp [Op.operands])
  rw [hx] at hrx
  rw [hl] at hrl
  rw [hh] at hrh
  rw [hm] at hrm
  have hu := tdOf_ok hT hd (by simp)
  have hlen : (l.map e).length = l.length := List.length_map _
  obtain ⟨v, s1, s2⟩ := aslice_sound (P := P) (w := w) (σ := τ) hT (T := T) (vlo := some (ρ ol)) (vhi := some (ρ oh)) (lo := some (.int kl lo)) (hi := some (.int kh hi)) (a := .sl (if hi.toNat = (l.map e).length then k else .no) sz (((l.map e).take hi.toNat).drop lo.toNat)) hrx (.some hrl) (.some hrh) (by
    simp only [aslice, hd, abnd_i _ c1, abnd_i _ (show 0 ≤ hi by omega)]
    rw [if_pos ⟨by omega, by rw [hlen]; omega, he.ty.symm, he.pos⟩])
  obtain ⟨A, c, news, hR⟩ := hrx.row
  have hcl := hR.le
  have hcm := hR.max
  rw [hlen] at hcl
  have hz : szOf Ty E ≠ 0 := by rw [he.ty]; exact he.pos
  have hrun1 : (Instr.sliceAt T (ρ ox) (some (ρ ol)) (some (ρ oh)) none).run P w = .ok (.slice (if c = lo.toNat then A else A.map (·.add (lo.toNat * szOf Ty E))) (hi.toNat - lo.toNat) (c - lo.toNat)) w := by
    rw [sliceAt_other hu (by simp), hR.val]
    have hb := bounds_sound (P := P) (w := w) true (l.map e).length c lo.toNat hi.toNat (.some hrl) (.some hrh) (abnd_i _ c1) (abnd_i _ (show 0 ≤ hi by omega)) (by omega) (by omega)
    rw [hlen] at hb
    simp [Instr.slice, run_underlying hu, hb, szOf_run (P := P) hT hz w]
  have hrun3 : (Instr.sliceAt T (ρ ox) (some (ρ ol)) (some (ρ oh)) (some (ρ om))).run P w = .ok (.slice (if mx.toNat = lo.toNat then A else A.map (·.add (lo.toNat * szOf Ty E))) (hi.toNat - lo.toNat) (mx.toNat - lo.toNat)) w := by
    rw [sliceAt_other hu (by simp), hR.val]
    have hb := bounds3_sound (P := P) (w := w) true (l.map e).length c lo.toNat hi.toNat mx.toNat (.some hrl) (.some hrh) (.some hrm) (abnd_i _ c1) (abnd_i _ (show 0 ≤ hi by omega)) (abnd_i _ (show 0 ≤ mx by omega)) (fun _ => rfl) (by omega) (by omega) (by omega)
    rw [hlen] at hb
    simp [Instr.slice, run_underlying hu, hb, szOf_run (P := P) hT hz w]
  rw [hrun1] at s1
  injection s1 with s1 _
  rw [← s1] at s2
  refine ⟨.slice (if mx.toNat = lo.toNat then A else A.map (·.add (lo.toNat * szOf Ty E))) (hi.toNat - lo.toNat) (mx.toNat - lo.toNat), w, G, by simp [execOp, hrun3], .refl G, hI, ?_⟩
  have hl2 : (((l.map e).take hi.toNat).drop lo.toNat).length = hi.toNat - lo.toNat := by rw [List.length_drop, List.length_take, hlen]; omega
  rw [eL, List.map_drop, List.map_take]
  by_cases hml : mx.toNat = lo.toNat
  · rw [if_pos hml]
    have h0 : ((l.map e).take hi.toNat).drop lo.toNat = [] := List.eq_nil_of_length_eq_zero (by rw [hl2]; omega)
    rw [h0, show hi.toNat - lo.toNat = 0 by omega]
    exact .sl0 A _ .no sz (by omega) (.inl rfl)
  · rw [if_neg hml]
    rw [if_neg (show ¬ c = lo.toNat by omega)] at s2
    exact s2.lessCap (by rw [hl2]; omega) (by omega)
end
end Go.Va
namespace Go.Va
open Go Go.RowKit
/-! ### a nil field of a variable as one that may be appended to -/
/-- Cells, of which some nil slices are seen as ones with a token. -/
inductive NkL (t : Nat) : List AV → List AV → Prop where
  | nil : NkL t [] []
  | same {a : AV} {l m : List AV} (h : NkL t l m) : NkL t (a :: l) (a :: m)
  | tok {sz : Nat} {l m : List AV} (h : NkL t l m) : NkL t (.nils :: l) (.sl (.own t) sz [] :: m)
theorem NkL.len {t : Nat} {l m : List AV} (h : NkL t l m) : l.length = m.length := by
  induction h with
  | nil => rfl
  | same _ ih => simp [ih]
  | tok _ ih => simp [ih]
theorem NkL.rel {t : Nat} {l m : List AV} (h : NkL t l m) {G : Ghost} (ht : t < G.nt) : ∀ {vs : List Value}, RelL G vs l → RelL G vs m := by
  induction h with
  | nil => exact fun h => h
  | same _ ih =>
    intro vs hr
    cases vs with
    | nil => have := hr.len; simp at this
    | cons v vs => exact RelL.cons (hr.at_ 0 v _ rfl rfl) (ih ⟨by simpa using hr.len, fun i u a e1 e2 => hr.at_ (i + 1) u a (by simpa using e1) (by simpa using e2)⟩)
  | tok _ ih =>
    intro vs hr
    cases vs with
    | nil => have := hr.len; simp at this
    | cons v vs =>
      have h1 := hr.at_ 0 v _ rfl rfl
      cases h1
      exact RelL.cons (.sl0 none 0 _ _ (Nat.zero_le _) (.inr ⟨rfl, ht⟩)) (ih ⟨by simpa using hr.len, fun i u a e1 e2 => hr.at_ (i + 1) u a (by simpa using e1) (by simpa using e2)⟩)
theorem Inv.tokO {w0 : World} {G : Ghost} {w : World} {σ : St} (h : Inv w0 G w σ) {id t : Nat} {c c' : List AV} (hc : σ.objs[id]? = some c) (hw : NkL t c c') (ht : t < G.nt) : Inv w0 G w ⟨σ.objs.set id c', σ.opn, σ.gl⟩ := by
  have hl := hw.len
  have hlt := (List.getElem?_eq_some_iff.1 hc).1
  have key : ∀ (i : Nat) (d : List AV), (σ.objs.set id c')[i]? = some d → d ≠ [] → ∃ d', σ.objs[i]? = some d' ∧ d' ≠ [] ∧ d'.length = d.length ∧ ∀ vs, RelL G vs d' → RelL G vs d := by
    intro i d hd hn
    rw [List.getElem?_set] at hd
    split at hd
    · rename_i he; subst he
      have hd' : c' = d := by
        first
          | exact Option.some.inj hd
          | (rw [if_pos hlt] at hd; exact Option.some.inj hd)
      subst hd'
      exact ⟨c, hc, fun h => by rw [h] at hl; exact hn (List.eq_nil_of_length_eq_zero hl.symm), hl, fun vs hr => hw.rel ht hr⟩
    · exact ⟨d, hd, hn, rfl, fun _ h => h⟩
  refine ⟨h.below, h.fz, fun i d hd hn => ?_, fun i b o d hl' hd hn => ?_, h.loclt, fun i b hl' => by simpa using h.locdom i b hl', fun i j b d e hi hj hd he hn hn' => ?_, fun t b top en ho ht => ?_, h.tokdom, h.tokinj, h.nt, h.lit, h.gl⟩
  · obtain ⟨d', a1, a2, a3, a4⟩ := key i d hd hn
    obtain ⟨b, T, vs, e1, e2, e3, e4, e5, e6⟩ := h.loc i d' a1 a2
    exact ⟨b, T, vs, e1, e2, e3, ⟨by rw [← a3]; exact e4.le, by rw [← a3]; exact a4 _ e4.rel⟩, e5, e6⟩
  · obtain ⟨d', a1, a2, _⟩ := key i d hd hn
    exact h.locfz i b o d' hl' a1 a2
  · obtain ⟨d', a1, a2, _⟩ := key i d hd hn
    obtain ⟨e', b1, b2, _⟩ := key j e he hn'
    exact h.locinj i j b d' e' hi hj a1 b1 a2 b2
  · obtain ⟨e1, e2, e3, e4⟩ := h.tok t b top en ho ht
    refine ⟨e1, e2, e3, fun i hi => ?_⟩
    have h0 := e4 i hi
    rw [List.getElem?_set]
    split
    · rename_i he; subst he
      rw [hc] at h0; cases h0
      have : c' = [] := List.eq_nil_of_length_eq_zero hl.symm
      subst this
      first | rfl | rw [if_pos hlt]
    · exact h0
theorem AWP.tokO {P : Program} {n : Nat} {c : Code} {Q : AExit → (Nat → AV) → St → Prop} {l : List (Nat × AV)} {σ0 σ : St} {O : List (Nat × List AV)} {A : List Nat} (hH : Holds σ0 O A σ) (k : Nat) {id : Nat} {c0 : List AV} (hk : O[k]? = some (id, c0)) {c1 : Nat → List AV} (hn : ∀ t, NkL t c0 (c1 t))
    (h : ∀ t τ, Holds σ0 (O.set k (id, c1 t)) (t :: A) τ → AWP P n c Q (Va.fm l) τ) : AWP P n c Q (Va.fm l) σ := fun w0 G a w hS => by
  obtain ⟨hle, hI⟩ := hS.inv.closed .no
  have hm : Holds σ0 O (σ.opn.length :: A) σ.more := hH.more
  have hc : σ.more.objs[id]? = some c0 := hm.at_ k hk
  have hI2 : Inv w0 _ w ⟨σ.more.objs.set id (c1 σ.opn.length), σ.more.opn, σ.more.gl⟩ := Inv.tokO hI hc (hn _) (Nat.lt_succ_self _)
  refine wp_mono (h _ _ (hm.put k hk (c1 σ.opn.length)) w0 _ a w ⟨hI2, hS.frm.mono hle, hS.size, hS.defers⟩) ?_
  rintro e a' w' ⟨ae, fr', σ', G', k1, k2, k3, k4⟩
  exact ⟨ae, fr', σ', G', k1, hle.trans k2, k3, k4⟩
end Go.Va
namespace Go.Proofs.YtkmlinaofbcbaaaDoor
open Go Go.Va
set_option linter.unusedSimpArgs false
def ty_0 : TypeId → Option TI
  | 1 => some ⟨.func, 1, 8, .nilf⟩
  | 2 => some ⟨.int .i64, 1, 8, .int .i64 0⟩
  | 3 => some ⟨.int .i64, 1, 8, .int .i64 0⟩
  | 4 => some ⟨.bool, 1, 1, .bool false⟩
  | 5 => some ⟨.int .u8, 1, 1, .int .u8 0⟩
  | 6 => some ⟨.int .u8, 1, 1, .int .u8 0⟩
  | 7 => some ⟨.struct [(0, 2), (1, 3), (2, 4), (3, 6)], 4, 24, .agg [.int .i64 0, .int .i64 0, .bool false, .int .u8 0]⟩
  | 8 => some ⟨.struct [(0, 2), (1, 3), (2, 4), (3, 6)], 4, 24, .agg [.int .i64 0, .int .i64 0, .bool false, .int .u8 0]⟩
  | 9 => some ⟨.str, 1, 16, .str ⟨#[]⟩⟩
  | 10 => some ⟨.str, 1, 16, .str ⟨#[]⟩⟩
  | 11 => some ⟨.str, 1, 16, .str ⟨#[]⟩⟩
  | 12 => some ⟨.int .u64, 1, 8, .int .u64 0⟩
  | 13 => some ⟨.struct [(0, 9), (1, 12)], 2, 24, .agg [.str ⟨#[]⟩, .int .u64 0]⟩
  | 14 => some ⟨.struct [(0, 9), (1, 12)], 2, 24, .agg [.str ⟨#[]⟩, .int .u64 0]⟩
  | 15 => some ⟨.ptr 197, 1, 8, .nilp⟩
  | 16 => some ⟨.ptr 200, 1, 8, .nilp⟩
  | 17 => some ⟨.ptr 208, 1, 8, .nilp⟩
  | 18 => some ⟨.struct [(0, 17)], 1, 8, .agg [.nilp]⟩
  | 19 => some ⟨.struct [(0, 17)], 1, 8, .agg [.nilp]⟩
  | 20 => some ⟨.iface, 1, 16, .nili⟩
  | 21 => some ⟨.int .i32, 1, 4, .int .i32 0⟩
  | 22 => some ⟨.slice 5, 1, 24, .nils⟩
  | 23 => some ⟨.struct [(0, 9), (1, 3), (2, 3), (3, 3), (4, 22)], 5, 64, .agg [.str ⟨#[]⟩, .int .i64 0, .int .i64 0, .int .i64 0, .nils]⟩
  | 24 => some ⟨.struct [(0, 9), (1, 3), (2, 3), (3, 3), (4, 22)], 5, 64, .agg [.str ⟨#[]⟩, .int .i64 0, .int .i64 0, .int .i64 0, .nils]⟩
  | 25 => some ⟨.struct [(0, 3), (1, 3), (2, 3), (3, 3), (4, 3), (5, 24), (10, 4)], 11, 112, .agg [.int .i64 0, .int .i64 0, .int .i64 0, .int .i64 0, .int .i64 0, .str ⟨#[]⟩, .int .i64 0, .int .i64 0, .int .i64 0, .nils, .bool false]⟩
  | 26 => some ⟨.struct [(0, 3), (1, 3), (2, 3), (3, 3), (4, 3), (5, 24), (10, 4)], 11, 112, .agg [.int .i64 0, .int .i64 0, .int .i64 0, .int .i64 0, .int .i64 0, .str ⟨#[]⟩, .int .i64 0, .int .i64 0, .int .i64 0, .nils, .bool false]⟩
  | 27 => some ⟨.func, 1, 8, .nilf⟩
  | 28 => some ⟨.func, 1, 8, .nilf⟩
  | 29 => some ⟨.iface, 1, 16, .nili⟩
  | 30 => some ⟨.iface, 1, 16, .nili⟩
  | 32 => some ⟨.func, 1, 8, .nilf⟩
  | 33 => some ⟨.int .i64, 1, 8, .int .i64 0⟩
  | 35 => some ⟨.func, 1, 8, .nilf⟩
  | 36 => some ⟨.func, 1, 8, .nilf⟩
  | 37 => some ⟨.func, 1, 8, .nilf⟩
  | 38 => some ⟨.func, 1, 8, .nilf⟩
  | 39 => some ⟨.func, 1, 8, .nilf⟩
  | 40 => some ⟨.func, 1, 8, .nilf⟩
  | 41 => some ⟨.func, 1, 8, .nilf⟩
  | 43 => some ⟨.func, 1, 8, .nilf⟩
  | 45 => some ⟨.func, 1, 8, .nilf⟩
  | 46 => some ⟨.func, 1, 8, .nilf⟩
  | 47 => some ⟨.func, 1, 8, .nilf⟩
  | 48 => some ⟨.int .u16, 1, 2, .int .u16 0⟩
  | 49 => some ⟨.int .u32, 1, 4, .int .u32 0⟩
  | 50 => some ⟨.func, 1, 8, .nilf⟩
  | 51 => some ⟨.slice 3, 1, 24, .nils⟩
  | 52 => some ⟨.struct [(0, 3), (1, 3), (2, 3), (3, 51)], 4, 48, .agg [.int .i64 0, .int .i64 0, .int .i64 0, .nils]⟩
  | 53 => some ⟨.struct [(0, 3), (1, 3), (2, 3), (3, 51)], 4, 48, .agg [.int .i64 0, .int .i64 0, .int .i64 0, .nils]⟩
  | 54 => some ⟨.func, 1, 8, .nilf⟩
  | 55 => some ⟨.func, 1, 8, .nilf⟩
  | 57 => some ⟨.func, 1, 8, .nilf⟩
  | 58 => some ⟨.func, 1, 8, .nilf⟩
  | 59 => some ⟨.func, 1, 8, .nilf⟩
  | 60 => some ⟨.slice 24, 1, 24, .nils⟩
  | 61 => some ⟨.func, 1, 8, .nilf⟩
  | 62 => some ⟨.slice 22, 1, 24, .nils⟩
  | 63 => some ⟨.func, 1, 8, .nilf⟩
  | 65 => some ⟨.func, 1, 8, .nilf⟩
  | 67 => some ⟨.func, 1, 8, .nilf⟩
  | _ => none
def ty_1 : TypeId → Option TI
  | 68 => some ⟨.func, 1, 8, .nilf⟩
  | 69 => some ⟨.func, 1, 8, .nilf⟩
  | 70 => some ⟨.slice 74, 1, 24, .nils⟩
  | 71 => some ⟨.func, 1, 8, .nilf⟩
  | 72 => some ⟨.int .u64, 1, 8, .int .u64 0⟩
  | 73 => some ⟨.struct [(0, 72), (1, 3), (2, 3)], 3, 24, .agg [.int .u64 0, .int .i64 0, .int .i64 0]⟩
  | 74 => some ⟨.struct [(0, 72), (1, 3), (2, 3)], 3, 24, .agg [.int .u64 0, .int .i64 0, .int .i64 0]⟩
  | 75 => some ⟨.func, 1, 8, .nilf⟩
  | 76 => some ⟨.func, 1, 8, .nilf⟩
  | 77 => some ⟨.func, 1, 8, .nilf⟩
  | 78 => some ⟨.func, 1, 8, .nilf⟩
  | 79 => some ⟨.func, 1, 8, .nilf⟩
  | 80 => some ⟨.func, 1, 8, .nilf⟩
  | 82 => some ⟨.func, 1, 8, .nilf⟩
  | 84 => some ⟨.func, 1, 8, .nilf⟩
  | 86 => some ⟨.func, 1, 8, .nilf⟩
  | 87 => some ⟨.func, 1, 8, .nilf⟩
  | 88 => some ⟨.func, 1, 8, .nilf⟩
  | 89 => some ⟨.func, 1, 8, .nilf⟩
  | 90 => some ⟨.func, 1, 8, .nilf⟩
  | 91 => some ⟨.arr 2 72, 2, 16, .agg [.int .u64 0, .int .u64 0]⟩
  | 92 => some ⟨.arr 2 72, 2, 16, .agg [.int .u64 0, .int .u64 0]⟩
  | 93 => some ⟨.func, 1, 8, .nilf⟩
  | 94 => some ⟨.func, 1, 8, .nilf⟩
  | 95 => some ⟨.func, 1, 8, .nilf⟩
  | 96 => some ⟨.slice 72, 1, 24, .nils⟩
  | 97 => some ⟨.func, 1, 8, .nilf⟩
  | 98 => some ⟨.slice 9, 1, 24, .nils⟩
  | 99 => some ⟨.func, 1, 8, .nilf⟩
  | 100 => some ⟨.func, 1, 8, .nilf⟩
  | 101 => some ⟨.func, 1, 8, .nilf⟩
  | 102 => some ⟨.func, 1, 8, .nilf⟩
  | 103 => some ⟨.func, 1, 8, .nilf⟩
  | 104 => some ⟨.func, 1, 8, .nilf⟩
  | 105 => some ⟨.func, 1, 8, .nilf⟩
  | 106 => some ⟨.func, 1, 8, .nilf⟩
  | 107 => some ⟨.func, 1, 8, .nilf⟩
  | 108 => some ⟨.func, 1, 8, .nilf⟩
  | 109 => some ⟨.ptr 113, 1, 8, .nilp⟩
  | 110 => some ⟨.func, 1, 8, .nilf⟩
  | 111 => some ⟨.ptr 109, 1, 8, .nilp⟩
  | 112 => some ⟨.struct [(0, 9), (1, 3), (2, 33), (3, 30)], 4, 48, .agg [.str ⟨#[]⟩, .int .i64 0, .int .i64 0, .nili]⟩
  | 113 => some ⟨.struct [(0, 9), (1, 3), (2, 33), (3, 30)], 4, 48, .agg [.str ⟨#[]⟩, .int .i64 0, .int .i64 0, .nili]⟩
  | 114 => some ⟨.func, 1, 8, .nilf⟩
  | 115 => some ⟨.func, 1, 8, .nilf⟩
  | 116 => some ⟨.func, 1, 8, .nilf⟩
  | 117 => some ⟨.func, 1, 8, .nilf⟩
  | 118 => some ⟨.func, 1, 8, .nilf⟩
  | 119 => some ⟨.func, 1, 8, .nilf⟩
  | 120 => some ⟨.ptr 170, 1, 8, .nilp⟩
  | 121 => some ⟨.func, 1, 8, .nilf⟩
  | 122 => some ⟨.func, 1, 8, .nilf⟩
  | 123 => some ⟨.func, 1, 8, .nilf⟩
  | 124 => some ⟨.func, 1, 8, .nilf⟩
  | 125 => some ⟨.func, 1, 8, .nilf⟩
  | 126 => some ⟨.struct [(0, 22), (1, 3), (2, 33)], 3, 40, .agg [.nils, .int .i64 0, .int .i64 0]⟩
  | 127 => some ⟨.struct [(0, 22), (1, 3), (2, 33)], 3, 40, .agg [.nils, .int .i64 0, .int .i64 0]⟩
  | 129 => some ⟨.func, 1, 8, .nilf⟩
  | 132 => some ⟨.func, 1, 8, .nilf⟩
  | _ => none
def ty_2 : TypeId → Option TI
  | 134 => some ⟨.func, 1, 8, .nilf⟩
  | 136 => some ⟨.func, 1, 8, .nilf⟩
  | 137 => some ⟨.func, 1, 8, .nilf⟩
  | 138 => some ⟨.func, 1, 8, .nilf⟩
  | 139 => some ⟨.func, 1, 8, .nilf⟩
  | 140 => some ⟨.func, 1, 8, .nilf⟩
  | 141 => some ⟨.func, 1, 8, .nilf⟩
  | 142 => some ⟨.func, 1, 8, .nilf⟩
  | 143 => some ⟨.func, 1, 8, .nilf⟩
  | 144 => some ⟨.func, 1, 8, .nilf⟩
  | 145 => some ⟨.func, 1, 8, .nilf⟩
  | 146 => some ⟨.func, 1, 8, .nilf⟩
  | 147 => some ⟨.func, 1, 8, .nilf⟩
  | 148 => some ⟨.func, 1, 8, .nilf⟩
  | 149 => some ⟨.arr 3 3, 3, 24, .agg [.int .i64 0, .int .i64 0, .int .i64 0]⟩
  | 150 => some ⟨.func, 1, 8, .nilf⟩
  | 151 => some ⟨.int .u64, 1, 8, .int .u64 0⟩
  | 152 => some ⟨.func, 1, 8, .nilf⟩
  | 153 => some ⟨.func, 1, 8, .nilf⟩
  | 154 => some ⟨.arr 4 5, 4, 4, .agg [.int .u8 0, .int .u8 0, .int .u8 0, .int .u8 0]⟩
  | 155 => some ⟨.func, 1, 8, .nilf⟩
  | 157 => some ⟨.int .u64, 1, 8, .int .u64 0⟩
  | 160 => some ⟨.func, 1, 8, .nilf⟩
  | 161 => some ⟨.iface, 1, 16, .nili⟩
  | 162 => some ⟨.iface, 1, 16, .nili⟩
  | 163 => some ⟨.func, 1, 8, .nilf⟩
  | 164 => some ⟨.int .u8, 1, 1, .int .u8 0⟩
  | 165 => some ⟨.func, 1, 8, .nilf⟩
  | 166 => some ⟨.func, 1, 8, .nilf⟩
  | 167 => some ⟨.func, 1, 8, .nilf⟩
  | 168 => some ⟨.func, 1, 8, .nilf⟩
  | 169 => some ⟨.struct [(0, 22), (1, 3), (2, 33)], 3, 40, .agg [.nils, .int .i64 0, .int .i64 0]⟩
  | 170 => some ⟨.struct [(0, 22), (1, 3), (2, 33)], 3, 40, .agg [.nils, .int .i64 0, .int .i64 0]⟩
  | 171 => some ⟨.func, 1, 8, .nilf⟩
  | 181 => some ⟨.struct [(0, 17)], 1, 8, .agg [.nilp]⟩
  | _ => none
def ty_3 : TypeId → Option TI
  | 205 => some ⟨.int .i32, 1, 4, .int .i32 0⟩
  | 206 => some ⟨.int .i32, 1, 4, .int .i32 0⟩
  | 211 => some ⟨.struct [(0, 9), (1, 164)], 2, 24, .agg [.str ⟨#[]⟩, .int .u8 0]⟩
  | 212 => some ⟨.struct [(0, 9), (1, 164)], 2, 24, .agg [.str ⟨#[]⟩, .int .u8 0]⟩
  | 218 => some ⟨.int .i32, 1, 4, .int .i32 0⟩
  | 219 => some ⟨.struct [(0, 205), (1, 206), (2, 218), (3, 218)], 4, 16, .agg [.int .i32 0, .int .i32 0, .int .i32 0, .int .i32 0]⟩
  | 220 => some ⟨.struct [(0, 205), (1, 206), (2, 218), (3, 218)], 4, 16, .agg [.int .i32 0, .int .i32 0, .int .i32 0, .int .i32 0]⟩
  | _ => none
def ty : TypeId → Option TI := fun t => bif Nat.ble t 67 then ty_0 t else bif Nat.ble t 132 then ty_1 t else bif Nat.ble t 203 then ty_2 t else ty_3 t
theorem ty1 : ty 1 = some ⟨.func, 1, 8, .nilf⟩ := rfl
theorem td1 : tdOf ty 1 = .func := rfl
theorem sz1 : szOf ty 1 = 1 := rfl
theorem ty2 : ty 2 = some ⟨.int .i64, 1, 8, .int .i64 0⟩ := rfl
theorem td2 : tdOf ty 2 = .int .i64 := rfl
theorem sz2 : szOf ty 2 = 1 := rfl
theorem ty3 : ty 3 = some ⟨.int .i64, 1, 8, .int .i64 0⟩ := rfl
theorem td3 : tdOf ty 3 = .int .i64 := rfl
theorem sz3 : szOf ty 3 = 1 := rfl
theorem ty4 : ty 4 = some ⟨.bool, 1, 1, .bool false⟩ := rfl
theorem td4 : tdOf ty 4 = .bool := rfl
theorem sz4 : szOf ty 4 = 1 := rfl
theorem ty5 : ty 5 = some ⟨.int .u8, 1, 1, .int .u8 0⟩ := rfl
theorem td5 : tdOf ty 5 = .int .u8 := rfl
theorem sz5 : szOf ty 5 = 1 := rfl
theorem ty6 : ty 6 = some ⟨.int .u8, 1, 1, .int .u8 0⟩ := rfl
theorem td6 : tdOf ty 6 = .int .u8 := rfl
theorem sz6 : szOf ty 6 = 1 := rfl
theorem ty7 : ty 7 = some ⟨.struct [(0, 2), (1, 3), (2, 4), (3, 6)], 4, 24, .agg [.int .i64 0, .int .i64 0, .bool false, .int .u8 0]⟩ := rfl
theorem td7 : tdOf ty 7 = .struct [(0, 2), (1, 3), (2, 4), (3, 6)] := rfl
theorem sz7 : szOf ty 7 = 4 := rfl
theorem ty8 : ty 8 = some ⟨.struct [(0, 2), (1, 3), (2, 4), (3, 6)], 4, 24, .agg [.int .i64 0, .int .i64 0, .bool false, .int .u8 0]⟩ := rfl
theorem td8 : tdOf ty 8 = .struct [(0, 2), (1, 3), (2, 4), (3, 6)] := rfl
theorem sz8 : szOf ty 8 = 4 := rfl
theorem ty9 : ty 9 = some ⟨.str, 1, 16, .str ⟨#[]⟩⟩ := rfl
theorem td9 : tdOf ty 9 = .str := rfl
theorem sz9 : szOf ty 9 = 1 := rfl
theorem ty10 : ty 10 = some ⟨.str, 1, 16, .str ⟨#[]⟩⟩ := rfl
theorem td10 : tdOf ty 10 = .str := rfl
theorem sz10 : szOf ty 10 = 1 := rfl
theorem ty11 : ty 11 = some ⟨.str, 1, 16, .str ⟨#[]⟩⟩ := rfl
theorem td11 : tdOf ty 11 = .str := rfl
theorem sz11 : szOf ty 11 = 1 := rfl
theorem ty12 : ty 12 = some ⟨.int .u64, 1, 8, .int .u64 0⟩ := rfl
theorem td12 : tdOf ty 12 = .int .u64 := rfl
theorem sz12 : szOf ty 12 = 1 := rfl
theorem ty13 : ty 13 = some ⟨.struct [(0, 9), (1, 12)], 2, 24, .agg [.str ⟨#[]⟩, .int .u64 0]⟩ := rfl
theorem td13 : tdOf ty 13 = .struct [(0, 9), (1, 12)] := rfl
theorem sz13 : szOf ty 13 = 2 := rfl
theorem ty14 : ty 14 = some ⟨.struct [(0, 9), (1, 12)], 2, 24, .agg [.str ⟨#[]⟩, .int .u64 0]⟩ := rfl
theorem td14 : tdOf ty 14 = .struct [(0, 9), (1, 12)] := rfl
theorem sz14 : szOf ty 14 = 2 := rfl
theorem ty15 : ty 15 = some ⟨.ptr 197, 1, 8, .nilp⟩ := rfl
theorem td15 : tdOf ty 15 = .ptr 197 := rfl
theorem sz15 : szOf ty 15 = 1 := rfl
theorem ty16 : ty 16 = some ⟨.ptr 200, 1, 8, .nilp⟩ := rfl
theorem td16 : tdOf ty 16 = .ptr 200 := rfl
theorem sz16 : szOf ty 16 = 1 := rfl
theorem ty17 : ty 17 = some ⟨.ptr 208, 1, 8, .nilp⟩ := rfl
theorem td17 : tdOf ty 17 = .ptr 208 := rfl
theorem sz17 : szOf ty 17 = 1 := rfl
theorem ty18 : ty 18 = some ⟨.struct [(0, 17)], 1, 8, .agg [.nilp]⟩ := rfl
theorem td18 : tdOf ty 18 = .struct [(0, 17)] := rfl
theorem sz18 : szOf ty 18 = 1 := rfl
theorem ty19 : ty 19 = some ⟨.struct [(0, 17)], 1, 8, .agg [.nilp]⟩ := rfl
theorem td19 : tdOf ty 19 = .struct [(0, 17)] := rfl
theorem sz19 : szOf ty 19 = 1 := rfl
theorem ty20 : ty 20 = some ⟨.iface, 1, 16, .nili⟩ := rfl
theorem td20 : tdOf ty 20 = .iface := rfl
theorem sz20 : szOf ty 20 = 1 := rfl
theorem ty21 : ty 21 = some ⟨.int .i32, 1, 4, .int .i32 0⟩ := rfl
theorem td21 : tdOf ty 21 = .int .i32 := rfl
theorem sz21 : szOf ty 21 = 1 := rfl
theorem ty22 : ty 22 = some ⟨.slice 5, 1, 24, .nils⟩ := rfl
theorem td22 : tdOf ty 22 = .slice 5 := rfl
theorem sz22 : szOf ty 22 = 1 := rfl
theorem ty23 : ty 23 = some ⟨.struct [(0, 9), (1, 3), (2, 3), (3, 3), (4, 22)], 5, 64, .agg [.str ⟨#[]⟩, .int .i64 0, .int .i64 0, .int .i64 0, .nils]⟩ := rfl
theorem td23 : tdOf ty 23 = .struct [(0, 9), (1, 3), (2, 3), (3, 3), (4, 22)] := rfl
theorem sz23 : szOf ty 23 = 5 := rfl
theorem ty24 : ty 24 = some ⟨.struct [(0, 9), (1, 3), (2, 3), (3, 3), (4, 22)], 5, 64, .agg [.str ⟨#[]⟩, .int .i64 0, .int .i64 0, .int .i64 0, .nils]⟩ := rfl
theorem td24 : tdOf ty 24 = .struct [(0, 9), (1, 3), (2, 3), (3, 3), (4, 22)] := rfl
theorem sz24 : szOf ty 24 = 5 := rfl
theorem ty25 : ty 25 = some ⟨.struct [(0, 3), (1, 3), (2, 3), (3, 3), (4, 3), (5, 24), (10, 4)], 11, 112, .agg [.int .i64 0, .int .i64 0, .int .i64 0, .int .i64 0, .int .i64 0, .str ⟨#[]⟩, .int .i64 0, .int .i64 0, .int .i64 0, .nils, .bool false]⟩ := rfl
theorem td25 : tdOf ty 25 = .struct [(0, 3), (1, 3), (2, 3), (3, 3), (4, 3), (5, 24), (10, 4)] := rfl
theorem sz25 : szOf ty 25 = 11 := rfl
theorem ty26 : ty 26 = some ⟨.struct [(0, 3), (1, 3), (2, 3), (3, 3), (4, 3), (5, 24), (10, 4)], 11, 112, .agg [.int .i64 0, .int .i64 0, .int .i64 0, .int .i64 0, .int .i64 0, .str ⟨#[]⟩, .int .i64 0, .int .i64 0, .int .i64 0, .nils, .bool false]⟩ := rfl
theorem td26 : tdOf ty 26 = .struct [(0, 3), (1, 3), (2, 3), (3, 3), (4, 3), (5, 24), (10, 4)] := rfl
theorem sz26 : szOf ty 26 = 11 := rfl
theorem ty27 : ty 27 = some ⟨.func, 1, 8, .nilf⟩ := rfl
theorem td27 : tdOf ty 27 = .func := rfl
theorem sz27 : szOf ty 27 = 1 := rfl
theorem ty28 : ty 28 = some ⟨.func, 1, 8, .nilf⟩ := rfl
theorem td28 : tdOf ty 28 = .func := rfl
theorem sz28 : szOf ty 28 = 1 := rfl
theorem ty29 : ty 29 = some ⟨.iface, 1, 16, .nili⟩ := rfl
theorem td29 : tdOf ty 29 = .iface := rfl
theorem sz29 : szOf ty 29 = 1 := rfl
theorem ty30 : ty 30 = some ⟨.iface, 1, 16, .nili⟩ := rfl
theorem td30 : tdOf ty 30 = .iface := rfl
theorem sz30 : szOf ty 30 = 1 := rfl
theorem ty32 : ty 32 = some ⟨.func, 1, 8, .nilf⟩ := rfl
theorem td32 : tdOf ty 32 = .func := rfl
theorem sz32 : szOf ty 32 = 1 := rfl
theorem ty33 : ty 33 = some ⟨.int .i64, 1, 8, .int .i64 0⟩ := rfl
theorem td33 : tdOf ty 33 = .int .i64 := rfl
theorem sz33 : szOf ty 33 = 1 := rfl
theorem ty35 : ty 35 = some ⟨.func, 1, 8, .nilf⟩ := rfl
theorem td35 : tdOf ty 35 = .func := rfl
theorem sz35 : szOf ty 35 = 1 := rfl
theorem ty36 : ty 36 = some ⟨.func, 1, 8, .nilf⟩ := rfl
theorem td36 : tdOf ty 36 = .func := rfl
theorem sz36 : szOf ty 36 = 1 := rfl
theorem ty37 : ty 37 = some ⟨.func, 1, 8, .nilf⟩ := rfl
theorem td37 : tdOf ty 37 = .func := rfl
theorem sz37 : szOf ty 37 = 1 := rfl
theorem ty38 : ty 38 = some ⟨.func, 1, 8, .nilf⟩ := rfl
theorem td38 : tdOf ty 38 = .func := rfl
theorem sz38 : szOf ty 38 = 1 := rfl
theorem ty39 : ty 39 = some ⟨.func, 1, 8, .nilf⟩ := rfl
theorem td39 : tdOf ty 39 = .func := rfl
theorem sz39 : szOf ty 39 = 1 := rfl
theorem ty40 : ty 40 = some ⟨.func, 1, 8, .nilf⟩ := rfl
theorem td40 : tdOf ty 40 = .func := rfl
theorem sz40 : szOf ty 40 = 1 := rfl
theorem ty41 : ty 41 = some ⟨.func, 1, 8, .nilf⟩ := rfl
theorem td41 : tdOf ty 41 = .func := rfl
theorem sz41 : szOf ty 41 = 1 := rfl
theorem ty43 : ty 43 = some ⟨.func, 1, 8, .nilf⟩ := rfl
theorem td43 : tdOf ty 43 = .func := rfl
theorem sz43 : szOf ty 43 = 1 := rfl
theorem ty45 : ty 45 = some ⟨.func, 1, 8, .nilf⟩ := rfl
theorem td45 : tdOf ty 45 = .func := rfl
theorem sz45 : szOf ty 45 = 1 := rfl
theorem ty46 : ty 46 = some ⟨.func, 1, 8, .nilf⟩ := rfl
theorem td46 : tdOf ty 46 = .func := rfl
theorem sz46 : szOf ty 46 = 1 := rfl
theorem ty47 : ty 47 = some ⟨.func, 1, 8, .nilf⟩ := rfl
theorem td47 : tdOf ty 47 = .func := rfl
theorem sz47 : szOf ty 47 = 1 := rfl
theorem ty48 : ty 48 = some ⟨.int .u16, 1, 2, .int .u16 0⟩ := rfl
theorem td48 : tdOf ty 48 = .int .u16 := rfl
theorem sz48 : szOf ty 48 = 1 := rfl
theorem ty49 : ty 49 = some ⟨.int .u32, 1, 4, .int .u32 0⟩ := rfl
theorem td49 : tdOf ty 49 = .int .u32 := rfl
theorem sz49 : szOf ty 49 = 1 := rfl
theorem ty50 : ty 50 = some ⟨.func, 1, 8, .nilf⟩ := rfl
theorem td50 : tdOf ty 50 = .func := rfl
theorem sz50 : szOf ty 50 = 1 := rfl
theorem ty51 : ty 51 = some ⟨.slice 3, 1, 24, .nils⟩ := rfl
theorem td51 : tdOf ty 51 = .slice 3 := rfl
theorem sz51 : szOf ty 51 = 1 := rfl
theorem ty52 : ty 52 = some ⟨.struct [(0, 3), (1, 3), (2, 3), (3, 51)], 4, 48, .agg [.int .i64 0, .int .i64 0, .int .i64 0, .nils]⟩ := rfl
theorem td52 : tdOf ty 52 = .struct [(0, 3), (1, 3), (2, 3), (3, 51)] := rfl
theorem sz52 : szOf ty 52 = 4 := rfl
theorem ty53 : ty 53 = some ⟨.struct [(0, 3), (1, 3), (2, 3), (3, 51)], 4, 48, .agg [.int .i64 0, .int .i64 0, .int .i64 0, .nils]⟩ := rfl
theorem td53 : tdOf ty 53 = .struct [(0, 3), (1, 3), (2, 3), (3, 51)] := rfl
theorem sz53 : szOf ty 53 = 4 := rfl
theorem ty54 : ty 54 = some ⟨.func, 1, 8, .nilf⟩ := rfl
theorem td54 : tdOf ty 54 = .func := rfl
theorem sz54 : szOf ty 54 = 1 := rfl
theorem ty55 : ty 55 = some ⟨.func, 1, 8, .nilf⟩ := rfl
theorem td55 : tdOf ty 55 = .func := rfl
theorem sz55 : szOf ty 55 = 1 := rfl
theorem ty57 : ty 57 = some ⟨.func, 1, 8, .nilf⟩ := rfl
theorem td57 : tdOf ty 57 = .func := rfl
theorem sz57 : szOf ty 57 = 1 := rfl
theorem ty58 : ty 58 = some ⟨.func, 1, 8, .nilf⟩ := rfl
theorem td58 : tdOf ty 58 = .func := rfl
theorem sz58 : szOf ty 58 = 1 := rfl
theorem ty59 : ty 59 = some ⟨.func, 1, 8, .nilf⟩ := rfl
theorem td59 : tdOf ty 59 = .func := rfl
theorem sz59 : szOf ty 59 = 1 := rfl
theorem ty60 : ty 60 = some ⟨.slice 24, 1, 24, .nils⟩ := rfl
theorem td60 : tdOf ty 60 = .slice 24 := rfl
theorem sz60 : szOf ty 60 = 1 := rfl
theorem ty61 : ty 61 = some ⟨.func, 1, 8, .nilf⟩ := rfl
theorem td61 : tdOf ty 61 = .func := rfl
theorem sz61 : szOf ty 61 = 1 := rfl
theorem ty62 : ty 62 = some ⟨.slice 22, 1, 24, .nils⟩ := rfl
theorem td62 : tdOf ty 62 = .slice 22 := rfl
theorem sz62 : szOf ty 62 = 1 := rfl
theorem ty63 : ty 63 = some ⟨.func, 1, 8, .nilf⟩ := rfl
theorem td63 : tdOf ty 63 = .func := rfl
theorem sz63 : szOf ty 63 = 1 := rfl
theorem ty65 : ty 65 = some ⟨.func, 1, 8, .nilf⟩ := rfl
theorem td65 : tdOf ty 65 = .func := rfl
theorem sz65 : szOf ty 65 = 1 := rfl
theorem ty67 : ty 67 = some ⟨.func, 1, 8, .nilf⟩ := rfl
theorem td67 : tdOf ty 67 = .func := rfl
theorem sz67 : szOf ty 67 = 1 := rfl
theorem ty68 : ty 68 = some ⟨.func, 1, 8, .nilf⟩ := rfl
theorem td68 : tdOf ty 68 = .func := rfl
theorem sz68 : szOf ty 68 = 1 := rfl
theorem ty69 : ty 69 = some ⟨.func, 1, 8, .nilf⟩ := rfl
theorem td69 : tdOf ty 69 = .func := rfl
theorem sz69 : szOf ty 69 = 1 := rfl
theorem ty70 : ty 70 = some ⟨.slice 74, 1, 24, .nils⟩ := rfl
theorem td70 : tdOf ty 70 = .slice 74 := rfl
theorem sz70 : szOf ty 70 = 1 := rfl
theorem ty71 : ty 71 = some ⟨.func, 1, 8, .nilf⟩ := rfl
theorem td71 : tdOf ty 71 = .func := rfl
theorem sz71 : szOf ty 71 = 1 := rfl
theorem ty72 : ty 72 = some ⟨.int .u64, 1, 8, .int .u64 0⟩ := rfl
theorem td72 : tdOf ty 72 = .int .u64 := rfl
theorem sz72 : szOf ty 72 = 1 := rfl
theorem ty73 : ty 73 = some ⟨.struct [(0, 72), (1, 3), (2, 3)], 3, 24, .agg [.int .u64 0, .int .i64 0, .int .i64 0]⟩ := rfl
theorem td73 : tdOf ty 73 = .struct [(0, 72), (1, 3), (2, 3)] := rfl
theorem sz73 : szOf ty 73 = 3 := rfl
theorem ty74 : ty 74 = some ⟨.struct [(0, 72), (1, 3), (2, 3)], 3, 24, .agg [.int .u64 0, .int .i64 0, .int .i64 0]⟩ := rfl
theorem td74 : tdOf ty 74 = .struct [(0, 72), (1, 3), (2, 3)] := rfl
theorem sz74 : szOf ty 74 = 3 := rfl
theorem ty75 : ty 75 = some ⟨.func, 1, 8, .nilf⟩ := rfl
theorem td75 : tdOf ty 75 = .func := rfl
theorem sz75 : szOf ty 75 = 1 := rfl
theorem ty76 : ty 76 = some ⟨.func, 1, 8, .nilf⟩ := rfl
theorem td76 : tdOf ty 76 = .func := rfl
theorem sz76 : szOf ty 76 = 1 := rfl
theorem ty77 : ty 77 = some ⟨.func, 1, 8, .nilf⟩ := rfl
theorem td77 : tdOf ty 77 = .func := rfl
theorem sz77 : szOf ty 77 = 1 := rfl
theorem ty78 : ty 78 = some ⟨.func, 1, 8, .nilf⟩ := rfl
theorem td78 : tdOf ty 78 = .func := rfl
theorem sz78 : szOf ty 78 = 1 := rfl
theorem ty79 : ty 79 = some ⟨.func, 1, 8, .nilf⟩ := rfl
theorem td79 : tdOf ty 79 = .func := rfl
theorem sz79 : szOf ty 79 = 1 := rfl
theorem ty80 : ty 80 = some ⟨.func, 1, 8, .nilf⟩ := rfl
theorem td80 : tdOf ty 80 = .func := rfl
theorem sz80 : szOf ty 80 = 1 := rfl
theorem ty82 : ty 82 = some ⟨.func, 1, 8, .nilf⟩ := rfl
theorem td82 : tdOf ty 82 = .func := rfl
theorem sz82 : szOf ty 82 = 1 := rfl
theorem ty84 : ty 84 = some ⟨.func, 1, 8, .nilf⟩ := rfl
theorem td84 : tdOf ty 84 = .func := rfl
theorem sz84 : szOf ty 84 = 1 := rfl
theorem ty86 : ty 86 = some ⟨.func, 1, 8, .nilf⟩ := rfl
theorem td86 : tdOf ty 86 = .func := rfl
theorem sz86 : szOf ty 86 = 1 := rfl
theorem ty87 : ty 87 = some ⟨.func, 1, 8, .nilf⟩ := rfl
theorem td87 : tdOf ty 87 = .func := rfl
theorem sz87 : szOf ty 87 = 1 := rfl
theorem ty88 : ty 88 = some ⟨.func, 1, 8, .nilf⟩ := rfl
theorem td88 : tdOf ty 88 = .func := rfl
theorem sz88 : szOf ty 88 = 1 := rfl
theorem ty89 : ty 89 = some ⟨.func, 1, 8, .nilf⟩ := rfl
theorem td89 : tdOf ty 89 = .func := rfl
theorem sz89 : szOf ty 89 = 1 := rfl
theorem ty90 : ty 90 = some ⟨.func, 1, 8, .nilf⟩ := rfl
theorem td90 : tdOf ty 90 = .func := rfl
theorem sz90 : szOf ty 90 = 1 := rfl
theorem ty91 : ty 91 = some ⟨.arr 2 72, 2, 16, .agg [.int .u64 0, .int .u64 0]⟩ := rfl
theorem td91 : tdOf ty 91 = .arr 2 72 := rfl
theorem sz91 : szOf ty 91 = 2 := rfl
theorem ty92 : ty 92 = some ⟨.arr 2 72, 2, 16, .agg [.int .u64 0, .int .u64 0]⟩ := rfl
theorem td92 : tdOf ty 92 = .arr 2 72 := rfl
theorem sz92 : szOf ty 92 = 2 := rfl
theorem ty93 : ty 93 = some ⟨.func, 1, 8, .nilf⟩ := rfl
theorem td93 : tdOf ty 93 = .func := rfl
theorem sz93 : szOf ty 93 = 1 := rfl
theorem ty94 : ty 94 = some ⟨.func, 1, 8, .nilf⟩ := rfl
theorem td94 : tdOf ty 94 = .func := rfl
theorem sz94 : szOf ty 94 = 1 := rfl
theorem ty95 : ty 95 = some ⟨.func, 1, 8, .nilf⟩ := rfl
theorem td95 : tdOf ty 95 = .func := rfl
theorem sz95 : szOf ty 95 = 1 := rfl
theorem ty96 : ty 96 = some ⟨.slice 72, 1, 24, .nils⟩ := rfl
theorem td96 : tdOf ty 96 = .slice 72 := rfl
theorem sz96 : szOf ty 96 = 1 := rfl
theorem ty97 : ty 97 = some ⟨.func, 1, 8, .nilf⟩ := rfl
theorem td97 : tdOf ty 97 = .func := rfl
theorem sz97 : szOf ty 97 = 1 := rfl
theorem ty98 : ty 98 = some ⟨.slice 9, 1, 24, .nils⟩ := rfl
theorem td98 : tdOf ty 98 = .slice 9 := rfl
theorem sz98 : szOf ty 98 = 1 := rfl
theorem ty99 : ty 99 = some ⟨.func, 1, 8, .nilf⟩ := rfl
theorem td99 : tdOf ty 99 = .func := rfl
theorem sz99 : szOf ty 99 = 1 := rfl
theorem ty100 : ty 100 = some ⟨.func, 1, 8, .nilf⟩ := rfl
theorem td100 : tdOf ty 100 = .func := rfl
theorem sz100 : szOf ty 100 = 1 := rfl
theorem ty101 : ty 101 = some ⟨.func, 1, 8, .nilf⟩ := rfl
theorem td101 : tdOf ty 101 = .func := rfl
theorem sz101 : szOf ty 101 = 1 := rfl
theorem ty102 : ty 102 = some ⟨.func, 1, 8, .nilf⟩ := rfl
theorem td102 : tdOf ty 102 = .func := rfl
theorem sz102 : szOf ty 102 = 1 := rfl
theorem ty103 : ty 103 = some ⟨.func, 1, 8, .nilf⟩ := rfl
theorem td103 : tdOf ty 103 = .func := rfl
theorem sz103 : szOf ty 103 = 1 := rfl
theorem ty104 : ty 104 = some ⟨.func, 1, 8, .nilf⟩ := rfl
theorem td104 : tdOf ty 104 = .func := rfl
theorem sz104 : szOf ty 104 = 1 := rfl
theorem ty105 : ty 105 = some ⟨.func, 1, 8, .nilf⟩ := rfl
theorem td105 : tdOf ty 105 = .func := rfl
theorem sz105 : szOf ty 105 = 1 := rfl
theorem ty106 : ty 106 = some ⟨.func, 1, 8, .nilf⟩ := rfl
theorem td106 : tdOf ty 106 = .func := rfl
theorem sz106 : szOf ty 106 = 1 := rfl
theorem ty107 : ty 107 = some ⟨.func, 1, 8, .nilf⟩ := rfl
theorem td107 : tdOf ty 107 = .func := rfl
theorem sz107 : szOf ty 107 = 1 := rfl
theorem ty108 : ty 108 = some ⟨.func, 1, 8, .nilf⟩ := rfl
theorem td108 : tdOf ty 108 = .func := rfl
theorem sz108 : szOf ty 108 = 1 := rfl
theorem ty109 : ty 109 = some ⟨.ptr 113, 1, 8, .nilp⟩ := rfl
theorem td109 : tdOf ty 109 = .ptr 113 := rfl
theorem sz109 : szOf ty 109 = 1 := rfl
theorem ty110 : ty 110 = some ⟨.func, 1, 8, .nilf⟩ := rfl
theorem td110 : tdOf ty 110 = .func := rfl
theorem sz110 : szOf ty 110 = 1 := rfl
theorem ty111 : ty 111 = some ⟨.ptr 109, 1, 8, .nilp⟩ := rfl
theorem td111 : tdOf ty 111 = .ptr 109 := rfl
theorem sz111 : szOf ty 111 = 1 := rfl
theorem ty112 : ty 112 = some ⟨.struct [(0, 9), (1, 3), (2, 33), (3, 30)], 4, 48, .agg [.str ⟨#[]⟩, .int .i64 0, .int .i64 0, .nili]⟩ := rfl
theorem td112 : tdOf ty 112 = .struct [(0, 9), (1, 3), (2, 33), (3, 30)] := rfl
theorem sz112 : szOf ty 112 = 4 := rfl
theorem ty113 : ty 113 = some ⟨.struct [(0, 9), (1, 3), (2, 33), (3, 30)], 4, 48, .agg [.str ⟨#[]⟩, .int .i64 0, .int .i64 0, .nili]⟩ := rfl
theorem td113 : tdOf ty 113 = .struct [(0, 9), (1, 3), (2, 33), (3, 30)] := rfl
theorem sz113 : szOf ty 113 = 4 := rfl
theorem ty114 : ty 114 = some ⟨.func, 1, 8, .nilf⟩ := rfl
theorem td114 : tdOf ty 114 = .func := rfl
theorem sz114 : szOf ty 114 = 1 := rfl
theorem ty115 : ty 115 = some ⟨.func, 1, 8, .nilf⟩ := rfl
theorem td115 : tdOf ty 115 = .func := rfl
theorem sz115 : szOf ty 115 = 1 := rfl
theorem ty116 : ty 116 = some ⟨.func, 1, 8, .nilf⟩ := rfl
theorem td116 : tdOf ty 116 = .func := rfl
theorem sz116 : szOf ty 116 = 1 := rfl
theorem ty117 : ty 117 = some ⟨.func, 1, 8, .nilf⟩ := rfl
theorem td117 : tdOf ty 117 = .func := rfl
theorem sz117 : szOf ty 117 = 1 := rfl
theorem ty118 : ty 118 = some ⟨.func, 1, 8, .nilf⟩ := rfl
theorem td118 : tdOf ty 118 = .func := rfl
theorem sz118 : szOf ty 118 = 1 := rfl
theorem ty119 : ty 119 = some ⟨.func, 1, 8, .nilf⟩ := rfl
theorem td119 : tdOf ty 119 = .func := rfl
theorem sz119 : szOf ty 119 = 1 := rfl
theorem ty120 : ty 120 = some ⟨.ptr 170, 1, 8, .nilp⟩ := rfl
theorem td120 : tdOf ty 120 = .ptr 170 := rfl
theorem sz120 : szOf ty 120 = 1 := rfl
theorem ty121 : ty 121 = some ⟨.func, 1, 8, .nilf⟩ := rfl
theorem td121 : tdOf ty 121 = .func := rfl
theorem sz121 : szOf ty 121 = 1 := rfl
theorem ty122 : ty 122 = some ⟨.func, 1, 8, .nilf⟩ := rfl
theorem td122 : tdOf ty 122 = .func := rfl
theorem sz122 : szOf ty 122 = 1 := rfl
theorem ty123 : ty 123 = some ⟨.func, 1, 8, .nilf⟩ := rfl
theorem td123 : tdOf ty 123 = .func := rfl
theorem sz123 : szOf ty 123 = 1 := rfl
theorem ty124 : ty 124 = some ⟨.func, 1, 8, .nilf⟩ := rfl
theorem td124 : tdOf ty 124 = .func := rfl
theorem sz124 : szOf ty 124 = 1 := rfl
theorem ty125 : ty 125 = some ⟨.func, 1, 8, .nilf⟩ := rfl
theorem td125 : tdOf ty 125 = .func := rfl
theorem sz125 : szOf ty 125 = 1 := rfl
theorem ty126 : ty 126 = some ⟨.struct [(0, 22), (1, 3), (2, 33)], 3, 40, .agg [.nils, .int .i64 0, .int .i64 0]⟩ := rfl
theorem td126 : tdOf ty 126 = .struct [(0, 22), (1, 3), (2, 33)] := rfl
theorem sz126 : szOf ty 126 = 3 := rfl
theorem ty127 : ty 127 = some ⟨.struct [(0, 22), (1, 3), (2, 33)], 3, 40, .agg [.nils, .int .i64 0, .int .i64 0]⟩ := rfl
theorem td127 : tdOf ty 127 = .struct [(0, 22), (1, 3), (2, 33)] := rfl
theorem sz127 : szOf ty 127 = 3 := rfl
theorem ty129 : ty 129 = some ⟨.func, 1, 8, .nilf⟩ := rfl
theorem td129 : tdOf ty 129 = .func := rfl
theorem sz129 : szOf ty 129 = 1 := rfl
theorem ty132 : ty 132 = some ⟨.func, 1, 8, .nilf⟩ := rfl
theorem td132 : tdOf ty 132 = .func := rfl
theorem sz132 : szOf ty 132 = 1 := rfl
theorem ty134 : ty 134 = some ⟨.func, 1, 8, .nilf⟩ := rfl
theorem td134 : tdOf ty 134 = .func := rfl
theorem sz134 : szOf ty 134 = 1 := rfl
theorem ty136 : ty 136 = some ⟨.func, 1, 8, .nilf⟩ := rfl
theorem td136 : tdOf ty 136 = .func := rfl
theorem sz136 : szOf ty 136 = 1 := rfl
theorem ty137 : ty 137 = some ⟨.func, 1, 8, .nilf⟩ := rfl
theorem td137 : tdOf ty 137 = .func := rfl
theorem sz137 : szOf ty 137 = 1 := rfl
theorem ty138 : ty 138 = some ⟨.func, 1, 8, .nilf⟩ := rfl
theorem td138 : tdOf ty 138 = .func := rfl
theorem sz138 : szOf ty 138 = 1 := rfl
theorem ty139 : ty 139 = some ⟨.func, 1, 8, .nilf⟩ := rfl
theorem td139 : tdOf ty 139 = .func := rfl
theorem sz139 : szOf ty 139 = 1 := rfl
theorem ty140 : ty 140 = some ⟨.func, 1, 8, .nilf⟩ := rfl
theorem td140 : tdOf ty 140 = .func := rfl
theorem sz140 : szOf ty 140 = 1 := rfl
theorem ty141 : ty 141 = some ⟨.func, 1, 8, .nilf⟩ := rfl
theorem td141 : tdOf ty 141 = .func := rfl
theorem sz141 : szOf ty 141 = 1 := rfl
theorem ty142 : ty 142 = some ⟨.func, 1, 8, .nilf⟩ := rfl
theorem td142 : tdOf ty 142 = .func := rfl
theorem sz142 : szOf ty 142 = 1 := rfl
theorem ty143 : ty 143 = some ⟨.func, 1, 8, .nilf⟩ := rfl
theorem td143 : tdOf ty 143 = .func := rfl
theorem sz143 : szOf ty 143 = 1 := rfl
theorem ty144 : ty 144 = some ⟨.func, 1, 8, .nilf⟩ := rfl
theorem td144 : tdOf ty 144 = .func := rfl
theorem sz144 : szOf ty 144 = 1 := rfl
theorem ty145 : ty 145 = some ⟨.func, 1, 8, .nilf⟩ := rfl
theorem td145 : tdOf ty 145 = .func := rfl
theorem sz145 : szOf ty 145 = 1 := rfl
theorem ty146 : ty 146 = some ⟨.func, 1, 8, .nilf⟩ := rfl
theorem td146 : tdOf ty 146 = .func := rfl
theorem sz146 : szOf ty 146 = 1 := rfl
theorem ty147 : ty 147 = some ⟨.func, 1, 8, .nilf⟩ := rfl
theorem td147 : tdOf ty 147 = .func := rfl
theorem sz147 : szOf ty 147 = 1 := rfl
theorem ty148 : ty 148 = some ⟨.func, 1, 8, .nilf⟩ := rfl
theorem td148 : tdOf ty 148 = .func := rfl
theorem sz148 : szOf ty 148 = 1 := rfl
theorem ty149 : ty 149 = some ⟨.arr 3 3, 3, 24, .agg [.int .i64 0, .int .i64 0, .int .i64 0]⟩ := rfl
theorem td149 : tdOf ty 149 = .arr 3 3 := rfl
theorem sz149 : szOf ty 149 = 3 := rfl
theorem ty150 : ty 150 = some ⟨.func, 1, 8, .nilf⟩ := rfl
theorem td150 : tdOf ty 150 = .func := rfl
theorem sz150 : szOf ty 150 = 1 := rfl
theorem ty151 : ty 151 = some ⟨.int .u64, 1, 8, .int .u64 0⟩ := rfl
theorem td151 : tdOf ty 151 = .int .u64 := rfl
theorem sz151 : szOf ty 151 = 1 := rfl
theorem ty152 : ty 152 = some ⟨.func, 1, 8, .nilf⟩ := rfl
theorem td152 : tdOf ty 152 = .func := rfl
theorem sz152 : szOf ty 152 = 1 := rfl
theorem ty153 : ty 153 = some ⟨.func, 1, 8, .nilf⟩ := rfl
theorem td153 : tdOf ty 153 = .func := rfl
theorem sz153 : szOf ty 153 = 1 := rfl
theorem ty154 : ty 154 = some ⟨.arr 4 5, 4, 4, .agg [.int .u8 0, .int .u8 0, .int .u8 0, .int .u8 0]⟩ := rfl
theorem td154 : tdOf ty 154 = .arr 4 5 := rfl
theorem sz154 : szOf ty 154 = 4 := rfl
theorem ty155 : ty 155 = some ⟨.func, 1, 8, .nilf⟩ := rfl
theorem td155 : tdOf ty 155 = .func := rfl
theorem sz155 : szOf ty 155 = 1 := rfl
theorem ty157 : ty 157 = some ⟨.int .u64, 1, 8, .int .u64 0⟩ := rfl
theorem td157 : tdOf ty 157 = .int .u64 := rfl
theorem sz157 : szOf ty 157 = 1 := rfl
theorem ty160 : ty 160 = some ⟨.func, 1, 8, .nilf⟩ := rfl
theorem td160 : tdOf ty 160 = .func := rfl
theorem sz160 : szOf ty 160 = 1 := rfl
theorem ty161 : ty 161 = some ⟨.iface, 1, 16, .nili⟩ := rfl
theorem td161 : tdOf ty 161 = .iface := rfl
theorem sz161 : szOf ty 161 = 1 := rfl
theorem ty162 : ty 162 = some ⟨.iface, 1, 16, .nili⟩ := rfl
theorem td162 : tdOf ty 162 = .iface := rfl
theorem sz162 : szOf ty 162 = 1 := rfl
theorem ty163 : ty 163 = some ⟨.func, 1, 8, .nilf⟩ := rfl
theorem td163 : tdOf ty 163 = .func := rfl
theorem sz163 : szOf ty 163 = 1 := rfl
theorem ty164 : ty 164 = some ⟨.int .u8, 1, 1, .int .u8 0⟩ := rfl
theorem td164 : tdOf ty 164 = .int .u8 := rfl
theorem sz164 : szOf ty 164 = 1 := rfl
theorem ty165 : ty 165 = some ⟨.func, 1, 8, .nilf⟩ := rfl
theorem td165 : tdOf ty 165 = .func := rfl
theorem sz165 : szOf ty 165 = 1 := rfl
theorem ty166 : ty 166 = some ⟨.func, 1, 8, .nilf⟩ := rfl
theorem td166 : tdOf ty 166 = .func := rfl
theorem sz166 : szOf ty 166 = 1 := rfl
theorem ty167 : ty 167 = some ⟨.func, 1, 8, .nilf⟩ := rfl
theorem td167 : tdOf ty 167 = .func := rfl
theorem sz167 : szOf ty 167 = 1 := rfl
theorem ty168 : ty 168 = some ⟨.func, 1, 8, .nilf⟩ := rfl
theorem td168 : tdOf ty 168 = .func := rfl
theorem sz168 : szOf ty 168 = 1 := rfl
theorem ty169 : ty 169 = some ⟨.struct [(0, 22), (1, 3), (2, 33)], 3, 40, .agg [.nils, .int .i64 0, .int .i64 0]⟩ := rfl
theorem td169 : tdOf ty 169 = .struct [(0, 22), (1, 3), (2, 33)] := rfl
theorem sz169 : szOf ty 169 = 3 := rfl
theorem ty170 : ty 170 = some ⟨.struct [(0, 22), (1, 3), (2, 33)], 3, 40, .agg [.nils, .int .i64 0, .int .i64 0]⟩ := rfl
theorem td170 : tdOf ty 170 = .struct [(0, 22), (1, 3), (2, 33)] := rfl
theorem sz170 : szOf ty 170 = 3 := rfl
theorem ty171 : ty 171 = some ⟨.func, 1, 8, .nilf⟩ := rfl
theorem td171 : tdOf ty 171 = .func := rfl
theorem sz171 : szOf ty 171 = 1 := rfl
theorem ty181 : ty 181 = some ⟨.struct [(0, 17)], 1, 8, .agg [.nilp]⟩ := rfl
theorem td181 : tdOf ty 181 = .struct [(0, 17)] := rfl
theorem sz181 : szOf ty 181 = 1 := rfl
theorem ty205 : ty 205 = some ⟨.int .i32, 1, 4, .int .i32 0⟩ := rfl
theorem td205 : tdOf ty 205 = .int .i32 := rfl
theorem sz205 : szOf ty 205 = 1 := rfl
theorem ty206 : ty 206 = some ⟨.int .i32, 1, 4, .int .i32 0⟩ := rfl
theorem td206 : tdOf ty 206 = .int .i32 := rfl
theorem sz206 : szOf ty 206 = 1 := rfl
theorem ty211 : ty 211 = some ⟨.struct [(0, 9), (1, 164)], 2, 24, .agg [.str ⟨#[]⟩, .int .u8 0]⟩ := rfl
theorem td211 : tdOf ty 211 = .struct [(0, 9), (1, 164)] := rfl
theorem sz211 : szOf ty 211 = 2 := rfl
theorem ty212 : ty 212 = some ⟨.struct [(0, 9), (1, 164)], 2, 24, .agg [.str ⟨#[]⟩, .int .u8 0]⟩ := rfl
theorem td212 : tdOf ty 212 = .struct [(0, 9), (1, 164)] := rfl
theorem sz212 : szOf ty 212 = 2 := rfl
theorem ty218 : ty 218 = some ⟨.int .i32, 1, 4, .int .i32 0⟩ := rfl
theorem td218 : tdOf ty 218 = .int .i32 := rfl
theorem sz218 : szOf ty 218 = 1 := rfl
theorem ty219 : ty 219 = some ⟨.struct [(0, 205), (1, 206), (2, 218), (3, 218)], 4, 16, .agg [.int .i32 0, .int .i32 0, .int .i32 0, .int .i32 0]⟩ := rfl
theorem td219 : tdOf ty 219 = .struct [(0, 205), (1, 206), (2, 218), (3, 218)] := rfl
theorem sz219 : szOf ty 219 = 4 := rfl
theorem ty220 : ty 220 = some ⟨.struct [(0, 205), (1, 206), (2, 218), (3, 218)], 4, 16, .agg [.int .i32 0, .int .i32 0, .int .i32 0, .int .i32 0]⟩ := rfl
theorem td220 : tdOf ty 220 = .struct [(0, 205), (1, 206), (2, 218), (3, 218)] := rfl
theorem sz220 : szOf ty 220 = 4 := rfl
theorem ok1 : TiOk Tryd.prog 1 ⟨.func, 1, 8, .nilf⟩ := tiOk_mk (.nilFunc) ⟨_, _, _, Tryd.underlying1⟩ (by kernel_rfl) rfl rfl rfl (by simp [Value.cells, Value.oneCell'])
theorem ok2 : TiOk Tryd.prog 2 ⟨.int .i64, 1, 8, .int .i64 0⟩ := tiOk_mk (.int .i64 0) Tryd.underlying2 (by kernel_rfl) rfl rfl rfl (by simp [Value.cells, Value.oneCell'])
theorem ok3 : TiOk Tryd.prog 3 ⟨.int .i64, 1, 8, .int .i64 0⟩ := tiOk_mk (.int .i64 0) Tryd.underlying3 (by kernel_rfl) rfl rfl rfl (by simp [Value.cells, Value.oneCell'])
theorem ok4 : TiOk Tryd.prog 4 ⟨.bool, 1, 1, .bool false⟩ := tiOk_mk (.bool false) Tryd.underlying4 (by kernel_rfl) rfl rfl rfl (by simp [Value.cells, Value.oneCell'])
theorem ok5 : TiOk Tryd.prog 5 ⟨.int .u8, 1, 1, .int .u8 0⟩ := tiOk_mk (.int .u8 0) Tryd.underlying5 (by kernel_rfl) rfl rfl rfl (by simp [Value.cells, Value.oneCell'])
theorem ok6 : TiOk Tryd.prog 6 ⟨.int .u8, 1, 1, .int .u8 0⟩ := tiOk_mk (.int .u8 0) Tryd.underlying6 (by kernel_rfl) rfl rfl rfl (by simp [Value.cells, Value.oneCell'])
theorem ok7 : TiOk Tryd.prog 7 ⟨.struct [(0, 2), (1, 3), (2, 4), (3, 6)], 4, 24, .agg [.int .i64 0, .int .i64 0, .bool false, .int .u8 0]⟩ := tiOk_mk (.agg #[.int .i64 0, .int .i64 0, .bool false, .int .u8 0]) ⟨_, Tryd.underlying7, rfl⟩ (by kernel_rfl) rfl rfl rfl (by simp [Value.cells, Value.oneCell'])
theorem ok8 : TiOk Tryd.prog 8 ⟨.struct [(0, 2), (1, 3), (2, 4), (3, 6)], 4, 24, .agg [.int .i64 0, .int .i64 0, .bool false, .int .u8 0]⟩ := tiOk_mk (.agg #[.int .i64 0, .int .i64 0, .bool false, .int .u8 0]) ⟨_, Tryd.underlying8, rfl⟩ (by kernel_rfl) rfl rfl rfl (by simp [Value.cells, Value.oneCell'])
theorem ok9 : TiOk Tryd.prog 9 ⟨.str, 1, 16, .str ⟨#[]⟩⟩ := tiOk_mk (.string ⟨#[]⟩) Tryd.underlying9 (by kernel_rfl) rfl rfl rfl (by simp [Value.cells, Value.oneCell'])
theorem ok10 : TiOk Tryd.prog 10 ⟨.str, 1, 16, .str ⟨#[]⟩⟩ := tiOk_mk (.string ⟨#[]⟩) Tryd.underlying10 (by kernel_rfl) rfl rfl rfl (by simp [Value.cells, Value.oneCell'])
theorem ok11 : TiOk Tryd.prog 11 ⟨.str, 1, 16, .str ⟨#[]⟩⟩ := tiOk_mk (.string ⟨#[]⟩) Tryd.underlying11 (by kernel_rfl) rfl rfl rfl (by simp [Value.cells, Value.oneCell'])
theorem ok12 : TiOk Tryd.prog 12 ⟨.int .u64, 1, 8, .int .u64 0⟩ := tiOk_mk (.int .u64 0) Tryd.underlying12 (by kernel_rfl) rfl rfl rfl (by simp [Value.cells, Value.oneCell'])
theorem ok13 : TiOk Tryd.prog 13 ⟨.struct [(0, 9), (1, 12)], 2, 24, .agg [.str ⟨#[]⟩, .int .u64 0]⟩ := tiOk_mk (.agg #[.string ⟨#[]⟩, .int .u64 0]) ⟨_, Tryd.underlying13, rfl⟩ (by kernel_rfl) rfl rfl rfl (by simp [Value.cells, Value.oneCell'])
theorem ok14 : TiOk Tryd.prog 14 ⟨.struct [(0, 9), (1, 12)], 2, 24, .agg [.str ⟨#[]⟩, .int .u64 0]⟩ := tiOk_mk (.agg #[.string ⟨#[]⟩, .int .u64 0]) ⟨_, Tryd.underlying14, rfl⟩ (by kernel_rfl) rfl rfl rfl (by simp [Value.cells, Value.oneCell'])
theorem ok15 : TiOk Tryd.prog 15 ⟨.ptr 197, 1, 8, .nilp⟩ := tiOk_mk (.pointer none) Tryd.underlying15 (by kernel_rfl) rfl rfl rfl (by simp [Value.cells, Value.oneCell'])
theorem ok16 : TiOk Tryd.prog 16 ⟨.ptr 200, 1, 8, .nilp⟩ := tiOk_mk (.pointer none) Tryd.underlying16 (by kernel_rfl) rfl rfl rfl (by simp [Value.cells, Value.oneCell'])
theorem ok17 : TiOk Tryd.prog 17 ⟨.ptr 208, 1, 8, .nilp⟩ := tiOk_mk (.pointer none) Tryd.underlying17 (by kernel_rfl) rfl rfl rfl (by simp [Value.cells, Value.oneCell'])
theorem ok18 : TiOk Tryd.prog 18 ⟨.struct [(0, 17)], 1, 8, .agg [.nilp]⟩ := tiOk_mk (.agg #[.pointer none]) ⟨_, Tryd.underlying18, rfl⟩ (by kernel_rfl) rfl rfl rfl (by simp [Value.cells, Value.oneCell'])
theorem ok19 : TiOk Tryd.prog 19 ⟨.struct [(0, 17)], 1, 8, .agg [.nilp]⟩ := tiOk_mk (.agg #[.pointer none]) ⟨_, Tryd.underlying19, rfl⟩ (by kernel_rfl) rfl rfl rfl (by simp [Value.cells, Value.oneCell'])
theorem ok20 : TiOk Tryd.prog 20 ⟨.iface, 1, 16, .nili⟩ := tiOk_mk (.nilIface) ⟨_, Tryd.underlying20⟩ (by kernel_rfl) rfl rfl rfl (by simp [Value.cells, Value.oneCell'])
theorem ok21 : TiOk Tryd.prog 21 ⟨.int .i32, 1, 4, .int .i32 0⟩ := tiOk_mk (.int .i32 0) Tryd.underlying21 (by kernel_rfl) rfl rfl rfl (by simp [Value.cells, Value.oneCell'])
theorem ok22 : TiOk Tryd.prog 22 ⟨.slice 5, 1, 24, .nils⟩ := tiOk_mk (.slice none 0 0) Tryd.underlying22 (by kernel_rfl) rfl rfl rfl (by simp [Value.cells, Value.oneCell'])
theorem ok23 : TiOk Tryd.prog 23 ⟨.struct [(0, 9), (1, 3), (2, 3), (3, 3), (4, 22)], 5, 64, .agg [.str ⟨#[]⟩, .int .i64 0, .int .i64 0, .int .i64 0, .nils]⟩ := tiOk_mk (.agg #[.string ⟨#[]⟩, .int .i64 0, .int .i64 0, .int .i64 0, .slice none 0 0]) ⟨_, Tryd.underlying23, rfl⟩ (by kernel_rfl) rfl rfl rfl (by simp [Value.cells, Value.oneCell'])
theorem ok24 : TiOk Tryd.prog 24 ⟨.struct [(0, 9), (1, 3), (2, 3), (3, 3), (4, 22)], 5, 64, .agg [.str ⟨#[]⟩, .int .i64 0, .int .i64 0, .int .i64 0, .nils]⟩ := tiOk_mk (.agg #[.string ⟨#[]⟩, .int .i64 0, .int .i64 0, .int .i64 0, .slice none 0 0]) ⟨_, Tryd.underlying24, rfl⟩ (by kernel_rfl) rfl rfl rfl (by simp [Value.cells, Value.oneCell'])
theorem ok25 : TiOk Tryd.prog 25 ⟨.struct [(0, 3), (1, 3), (2, 3), (3, 3), (4, 3), (5, 24), (10, 4)], 11, 112, .agg [.int .i64 0, .int .i64 0, .int .i64 0, .int .i64 0, .int .i64 0, .str ⟨#[]⟩, .int .i64 0, .int .i64 0, .int .i64 0, .nils, .bool false]⟩ := tiOk_mk (.agg #[.int .i64 0, .int .i64 0, .int .i64 0, .int .i64 0, .int .i64 0, .string ⟨#[]⟩, .int .i64 0, .int .i64 0, .int .i64 0, .slice none 0 0, .bool false]) ⟨_, Tryd.underlying25, rfl⟩ (by kernel_rfl) rfl rfl rfl (by simp [Value.cells, Value.oneCell'])
theorem ok26 : TiOk Tryd.prog 26 ⟨.struct [(0, 3), (1, 3), (2, 3), (3, 3), (4, 3), (5, 24), (10, 4)], 11, 112, .agg [.int .i64 0, .int .i64 0, .int .i64 0, .int .i64 0, .int .i64 0, .str ⟨#[]⟩, .int .i64 0, .int .i64 0, .int .i64 0, .nils, .bool false]⟩ := tiOk_mk (.agg #[.int .i64 0, .int .i64 0, .int .i64 0, .int .i64 0, .int .i64 0, .string ⟨#[]⟩, .int .i64 0, .int .i64 0, .int .i64 0, .slice none 0 0, .bool false]) ⟨_, Tryd.underlying26, rfl⟩ (by kernel_rfl) rfl rfl rfl (by simp [Value.cells, Value.oneCell'])
theorem ok27 : TiOk Tryd.prog 27 ⟨.func, 1, 8, .nilf⟩ := tiOk_mk (.nilFunc) ⟨_, _, _, Tryd.underlying27⟩ (by kernel_rfl) rfl rfl rfl (by simp [Value.cells, Value.oneCell'])
theorem ok28 : TiOk Tryd.prog 28 ⟨.func, 1, 8, .nilf⟩ := tiOk_mk (.nilFunc) ⟨_, _, _, Tryd.underlying28⟩ (by kernel_rfl) rfl rfl rfl (by simp [Value.cells, Value.oneCell'])
theorem ok29 : TiOk Tryd.prog 29 ⟨.iface, 1, 16, .nili⟩ := tiOk_mk (.nilIface) ⟨_, Tryd.underlying29⟩ (by kernel_rfl) rfl rfl rfl (by simp [Value.cells, Value.oneCell'])
theorem ok30 : TiOk Tryd.prog 30 ⟨.iface, 1, 16, .nili⟩ := tiOk_mk (.nilIface) ⟨_, Tryd.underlying30⟩ (by kernel_rfl) rfl rfl rfl (by simp [Value.cells, Value.oneCell'])
theorem ok32 : TiOk Tryd.prog 32 ⟨.func, 1, 8, .nilf⟩ := tiOk_mk (.nilFunc) ⟨_, _, _, Tryd.underlying32⟩ (by kernel_rfl) rfl rfl rfl (by simp [Value.cells, Value.oneCell'])
theorem ok33 : TiOk Tryd.prog 33 ⟨.int .i64, 1, 8, .int .i64 0⟩ := tiOk_mk (.int .i64 0) Tryd.underlying33 (by kernel_rfl) rfl rfl rfl (by simp [Value.cells, Value.oneCell'])
theorem ok35 : TiOk Tryd.prog 35 ⟨.func, 1, 8, .nilf⟩ := tiOk_mk (.nilFunc) ⟨_, _, _, Tryd.underlying35⟩ (by kernel_rfl) rfl rfl rfl (by simp [Value.cells, Value.oneCell'])
theorem ok36 : TiOk Tryd.prog 36 ⟨.func, 1, 8, .nilf⟩ := tiOk_mk (.nilFunc) ⟨_, _, _, Tryd.underlying36⟩ (by kernel_rfl) rfl rfl rfl (by simp [Value.cells, Value.oneCell'])
theorem ok37 : TiOk Tryd.prog 37 ⟨.func, 1, 8, .nilf⟩ := tiOk_mk (.nilFunc) ⟨_, _, _, Tryd.underlying37⟩ (by kernel_rfl) rfl rfl rfl (by simp [Value.cells, Value.oneCell'])
theorem ok38 : TiOk Tryd.prog 38 ⟨.func, 1, 8, .nilf⟩ := tiOk_mk (.nilFunc) ⟨_, _, _, Tryd.underlying38⟩ (by kernel_rfl) rfl rfl rfl (by simp [Value.cells, Value.oneCell'])
theorem ok39 : TiOk Tryd.prog 39 ⟨.func, 1, 8, .nilf⟩ := tiOk_mk (.nilFunc) ⟨_, _, _, Tryd.underlying39⟩ (by kernel_rfl) rfl rfl rfl (by simp [Value.cells, Value.oneCell'])
theorem ok40 : TiOk Tryd.prog 40 ⟨.func, 1, 8, .nilf⟩ := tiOk_mk (.nilFunc) ⟨_, _, _, Tryd.underlying40⟩ (by kernel_rfl) rfl rfl rfl (by simp [Value.cells, Value.oneCell'])
theorem ok41 : TiOk Tryd.prog 41 ⟨.func, 1, 8, .nilf⟩ := tiOk_mk (.nilFunc) ⟨_, _, _, Tryd.underlying41⟩ (by kernel_rfl) rfl rfl rfl (by simp [Value.cells, Value.oneCell'])
theorem ok43 : TiOk Tryd.prog 43 ⟨.func, 1, 8, .nilf⟩ := tiOk_mk (.nilFunc) ⟨_, _, _, Tryd.underlying43⟩ (by kernel_rfl) rfl rfl rfl (by simp [Value.cells, Value.oneCell'])
theorem ok45 : TiOk Tryd.prog 45 ⟨.func, 1, 8, .nilf⟩ := tiOk_mk (.nilFunc) ⟨_, _, _, Tryd.underlying45⟩ (by kernel_rfl) rfl rfl rfl (by simp [Value.cells, Value.oneCell'])
theorem ok46 : TiOk Tryd.prog 46 ⟨.func, 1, 8, .nilf⟩ := tiOk_mk (.nilFunc) ⟨_, _, _, Tryd.underlying46⟩ (by kernel_rfl) rfl rfl rfl (by simp [Value.cells, Value.oneCell'])
theorem ok47 : TiOk Tryd.prog 47 ⟨.func, 1, 8, .nilf⟩ := tiOk_mk (.nilFunc) ⟨_, _, _, Tryd.underlying47⟩ (by kernel_rfl) rfl rfl rfl (by simp [Value.cells, Value.oneCell'])
theorem ok48 : TiOk Tryd.prog 48 ⟨.int .u16, 1, 2, .int .u16 0⟩ := tiOk_mk (.int .u16 0) Tryd.underlying48 (by kernel_rfl) rfl rfl rfl (by simp [Value.cells, Value.oneCell'])
theorem ok49 : TiOk Tryd.prog 49 ⟨.int .u32, 1, 4, .int .u32 0⟩ := tiOk_mk (.int .u32 0) Tryd.underlying49 (by kernel_rfl) rfl rfl rfl (by simp [Value.cells, Value.oneCell'])
theorem ok50 : TiOk Tryd.prog 50 ⟨.func, 1, 8, .nilf⟩ := tiOk_mk (.nilFunc) ⟨_, _, _, Tryd.underlying50⟩ (by kernel_rfl) rfl rfl rfl (by simp [Value.cells, Value.oneCell'])
theorem ok51 : TiOk Tryd.prog 51 ⟨.slice 3, 1, 24, .nils⟩ := tiOk_mk (.slice none 0 0) Tryd.underlying51 (by kernel_rfl) rfl rfl rfl (by simp [Value.cells, Value.oneCell'])
theorem ok52 : TiOk Tryd.prog 52 ⟨.struct [(0, 3), (1, 3), (2, 3), (3, 51)], 4, 48, .agg [.int .i64 0, .int .i64 0, .int .i64 0, .nils]⟩ := tiOk_mk (.agg #[.int .i64 0, .int .i64 0, .int .i64 0, .slice none 0 0]) ⟨_, Tryd.underlying52, rfl⟩ (by kernel_rfl) rfl rfl rfl (by simp [Value.cells, Value.oneCell'])
theorem ok53 : TiOk Tryd.prog 53 ⟨.struct [(0, 3), (1, 3), (2, 3), (3, 51)], 4, 48, .agg [.int .i64 0, .int .i64 0, .int .i64 0, .nils]⟩ := tiOk_mk (.agg #[.int .i64 0, .int .i64 0, .int .i64 0, .slice none 0 0]) ⟨_, Tryd.underlying53, rfl⟩ (by kernel_rfl) rfl rfl rfl (by simp [Value.cells, Value.oneCell'])
theorem ok54 : TiOk Tryd.prog 54 ⟨.func, 1, 8, .nilf⟩ := tiOk_mk (.nilFunc) ⟨_, _, _, Tryd.underlying54⟩ (by kernel_rfl) rfl rfl rfl (by simp [Value.cells, Value.oneCell'])
theorem ok55 : TiOk Tryd.prog 55 ⟨.func, 1, 8, .nilf⟩ := tiOk_mk (.nilFunc) ⟨_, _, _, Tryd.underlying55⟩ (by kernel_rfl) rfl rfl rfl (by simp [Value.cells, Value.oneCell'])
theorem ok57 : TiOk Tryd.prog 57 ⟨.func, 1, 8, .nilf⟩ := tiOk_mk (.nilFunc) ⟨_, _, _, Tryd.underlying57⟩ (by kernel_rfl) rfl rfl rfl (by simp [Value.cells, Value.oneCell'])
theorem ok58 : TiOk Tryd.prog 58 ⟨.func, 1, 8, .nilf⟩ := tiOk_mk (.nilFunc) ⟨_, _, _, Tryd.underlying58⟩ (by kernel_rfl) rfl rfl rfl (by simp [Value.cells, Value.oneCell'])
theorem ok59 : TiOk Tryd.prog 59 ⟨.func, 1, 8, .nilf⟩ := tiOk_mk (.nilFunc) ⟨_, _, _, Tryd.underlying59⟩ (by kernel_rfl) rfl rfl rfl (by simp [Value.cells, Value.oneCell'])
theorem ok60 : TiOk Tryd.prog 60 ⟨.slice 24, 1, 24, .nils⟩ := tiOk_mk (.slice none 0 0) Tryd.underlying60 (by kernel_rfl) rfl rfl rfl (by simp [Value.cells, Value.oneCell'])
theorem ok61 : TiOk Tryd.prog 61 ⟨.func, 1, 8, .nilf⟩ := tiOk_mk (.nilFunc) ⟨_, _, _, Tryd.underlying61⟩ (by kernel_rfl) rfl rfl rfl (by simp [Value.cells, Value.oneCell'])
theorem ok62 : TiOk Tryd.prog 62 ⟨.slice 22, 1, 24, .nils⟩ := tiOk_mk (.slice none 0 0) Tryd.underlying62 (by kernel_rfl) rfl rfl rfl (by simp [Value.cells, Value.oneCell'])
theorem ok63 : TiOk Tryd.prog 63 ⟨.func, 1, 8, .nilf⟩ := tiOk_mk (.nilFunc) ⟨_, _, _, Tryd.underlying63⟩ (by kernel_rfl) rfl rfl rfl (by simp [Value.cells, Value.oneCell'])
theorem ok65 : TiOk Tryd.prog 65 ⟨.func, 1, 8, .nilf⟩ := tiOk_mk (.nilFunc) ⟨_, _, _, Tryd.underlying65⟩ (by kernel_rfl) rfl rfl rfl (by simp [Value.cells, Value.oneCell'])
theorem ok67 : TiOk Tryd.prog 67 ⟨.func, 1, 8, .nilf⟩ := tiOk_mk (.nilFunc) ⟨_, _, _, Tryd.underlying67⟩ (by kernel_rfl) rfl rfl rfl (by simp [Value.cells, Value.oneCell'])
theorem ok68 : TiOk Tryd.prog 68 ⟨.func, 1, 8, .nilf⟩ := tiOk_mk (.nilFunc) ⟨_, _, _, Tryd.underlying68⟩ (by kernel_rfl) rfl rfl rfl (by simp [Value.cells, Value.oneCell'])
theorem ok69 : TiOk Tryd.prog 69 ⟨.func, 1, 8, .nilf⟩ := tiOk_mk (.nilFunc) ⟨_, _, _, Tryd.underlying69⟩ (by kernel_rfl) rfl rfl rfl (by simp [Value.cells, Value.oneCell'])
theorem ok70 : TiOk Tryd.prog 70 ⟨.slice 74, 1, 24, .nils⟩ := tiOk_mk (.slice none 0 0) Tryd.underlying70 (by kernel_rfl) rfl rfl rfl (by simp [Value.cells, Value.oneCell'])
theorem ok71 : TiOk Tryd.prog 71 ⟨.func, 1, 8, .nilf⟩ := tiOk_mk (.nilFunc) ⟨_, _, _, Tryd.underlying71⟩ (by kernel_rfl) rfl rfl rfl (by simp [Value.cells, Value.oneCell'])
theorem ok72 : TiOk Tryd.prog 72 ⟨.int .u64, 1, 8, .int .u64 0⟩ := tiOk_mk (.int .u64 0) Tryd.underlying72 (by kernel_rfl) rfl rfl rfl (by simp [Value.cells, Value.oneCell'])
theorem ok73 : TiOk Tryd.prog 73 ⟨.struct [(0, 72), (1, 3), (2, 3)], 3, 24, .agg [.int .u64 0, .int .i64 0, .int .i64 0]⟩ := tiOk_mk (.agg #[.int .u64 0, .int .i64 0, .int .i64 0]) ⟨_, Tryd.underlying73, rfl⟩ (by kernel_rfl) rfl rfl rfl (by simp [Value.cells, Value.oneCell'])
theorem ok74 : TiOk Tryd.prog 74 ⟨.struct [(0, 72), (1, 3), (2, 3)], 3, 24, .agg [.int .u64 0, .int .i64 0, .int .i64 0]⟩ := tiOk_mk (.agg #[.int .u64 0, .int .i64 0, .int .i64 0]) ⟨_, Tryd.underlying74, rfl⟩ (by kernel_rfl) rfl rfl rfl (by simp [Value.cells, Value.oneCell'])
theorem ok75 : TiOk Tryd.prog 75 ⟨.func, 1, 8, .nilf⟩ := tiOk_mk (.nilFunc) ⟨_, _, _, Tryd.underlying75⟩ (by kernel_rfl) rfl rfl rfl (by simp [Value.cells, Value.oneCell'])
theorem ok76 : TiOk Tryd.prog 76 ⟨.func, 1, 8, .nilf⟩ := tiOk_mk (.nilFunc) ⟨_, _, _, Tryd.underlying76⟩ (by kernel_rfl) rfl rfl rfl (by simp [Value.cells, Value.oneCell'])
theorem ok77 : TiOk Tryd.prog 77 ⟨.func, 1, 8, .nilf⟩ := tiOk_mk (.nilFunc) ⟨_, _, _, Tryd.underlying77⟩ (by kernel_rfl) rfl rfl rfl (by simp [Value.cells, Value.oneCell'])
theorem ok78 : TiOk Tryd.prog 78 ⟨.func, 1, 8, .nilf⟩ := tiOk_mk (.nilFunc) ⟨_, _, _, Tryd.underlying78⟩ (by kernel_rfl) rfl rfl rfl (by simp [Value.cells, Value.oneCell'])
theorem ok79 : TiOk Tryd.prog 79 ⟨.func, 1, 8, .nilf⟩ := tiOk_mk (.nilFunc) ⟨_, _, _, Tryd.underlying79⟩ (by kernel_rfl) rfl rfl rfl (by simp [Value.cells, Value.oneCell'])
theorem ok80 : TiOk Tryd.prog 80 ⟨.func, 1, 8, .nilf⟩ := tiOk_mk (.nilFunc) ⟨_, _, _, Tryd.underlying80⟩ (by kernel_rfl) rfl rfl rfl (by simp [Value.cells, Value.oneCell'])
theorem ok82 : TiOk Tryd.prog 82 ⟨.func, 1, 8, .nilf⟩ := tiOk_mk (.nilFunc) ⟨_, _, _, Tryd.underlying82⟩ (by kernel_rfl) rfl rfl rfl (by simp [Value.cells, Value.oneCell'])
theorem ok84 : TiOk Tryd.prog 84 ⟨.func, 1, 8, .nilf⟩ := tiOk_mk (.nilFunc) ⟨_, _, _, Tryd.underlying84⟩ (by kernel_rfl) rfl rfl rfl (by simp [Value.cells, Value.oneCell'])
theorem ok86 : TiOk Tryd.prog 86 ⟨.func, 1, 8, .nilf⟩ := tiOk_mk (.nilFunc) ⟨_, _, _, Tryd.underlying86⟩ (by kernel_rfl) rfl rfl rfl (by simp [Value.cells, Value.oneCell'])
theorem ok87 : TiOk Tryd.prog 87 ⟨.func, 1, 8, .nilf⟩ := tiOk_mk (.nilFunc) ⟨_, _, _, Tryd.underlying87⟩ (by kernel_rfl) rfl rfl rfl (by simp [Value.cells, Value.oneCell'])
theorem ok88 : TiOk Tryd.prog 88 ⟨.func, 1, 8, .nilf⟩ := tiOk_mk (.nilFunc) ⟨_, _, _, Tryd.underlying88⟩ (by kernel_rfl) rfl rfl rfl (by simp [Value.cells, Value.oneCell'])
theorem ok89 : TiOk Tryd.prog 89 ⟨.func, 1, 8, .nilf⟩ := tiOk_mk (.nilFunc) ⟨_, _, _, Tryd.underlying89⟩ (by kernel_rfl) rfl rfl rfl (by simp [Value.cells, Value.oneCell'])
theorem ok90 : TiOk Tryd.prog 90 ⟨.func, 1, 8, .nilf⟩ := tiOk_mk (.nilFunc) ⟨_, _, _, Tryd.underlying90⟩ (by kernel_rfl) rfl rfl rfl (by simp [Value.cells, Value.oneCell'])
theorem ok91 : TiOk Tryd.prog 91 ⟨.arr 2 72, 2, 16, .agg [.int .u64 0, .int .u64 0]⟩ := tiOk_mk (.agg #[.int .u64 0, .int .u64 0]) Tryd.underlying91 (by kernel_rfl) rfl rfl rfl (by simp [Value.cells, Value.oneCell'])
theorem ok92 : TiOk Tryd.prog 92 ⟨.arr 2 72, 2, 16, .agg [.int .u64 0, .int .u64 0]⟩ := tiOk_mk (.agg #[.int .u64 0, .int .u64 0]) Tryd.underlying92 (by kernel_rfl) rfl rfl rfl (by simp [Value.cells, Value.oneCell'])
theorem ok93 : TiOk Tryd.prog 93 ⟨.func, 1, 8, .nilf⟩ := tiOk_mk (.nilFunc) ⟨_, _, _, Tryd.underlying93⟩ (by kernel_rfl) rfl rfl rfl (by simp [Value.cells, Value.oneCell'])
theorem ok94 : TiOk Tryd.prog 94 ⟨.func, 1, 8, .nilf⟩ := tiOk_mk (.nilFunc) ⟨_, _, _, Tryd.underlying94⟩ (by kernel_rfl) rfl rfl rfl (by simp [Value.cells, Value.oneCell'])
theorem ok95 : TiOk Tryd.prog 95 ⟨.func, 1, 8, .nilf⟩ := tiOk_mk (.nilFunc) ⟨_, _, _, Tryd.underlying95⟩ (by kernel_rfl) rfl rfl rfl (by simp [Value.cells, Value.oneCell'])
theorem ok96 : TiOk Tryd.prog 96 ⟨.slice 72, 1, 24, .nils⟩ := tiOk_mk (.slice none 0 0) Tryd.underlying96 (by kernel_rfl) rfl rfl rfl (by simp [Value.cells, Value.oneCell'])
theorem ok97 : TiOk Tryd.prog 97 ⟨.func, 1, 8, .nilf⟩ := tiOk_mk (.nilFunc) ⟨_, _, _, Tryd.underlying97⟩ (by kernel_rfl) rfl rfl rfl (by simp [Value.cells, Value.oneCell'])
theorem ok98 : TiOk Tryd.prog 98 ⟨.slice 9, 1, 24, .nils⟩ := tiOk_mk (.slice none 0 0) Tryd.underlying98 (by kernel_rfl) rfl rfl rfl (by simp [Value.cells, Value.oneCell'])
theorem ok99 : TiOk Tryd.prog 99 ⟨.func, 1, 8, .nilf⟩ := tiOk_mk (.nilFunc) ⟨_, _, _, Tryd.underlying99⟩ (by kernel_rfl) rfl rfl rfl (by simp [Value.cells, Value.oneCell'])
theorem ok100 : TiOk Tryd.prog 100 ⟨.func, 1, 8, .nilf⟩ := tiOk_mk (.nilFunc) ⟨_, _, _, Tryd.underlying100⟩ (by kernel_rfl) rfl rfl rfl (by simp [Value.cells, Value.oneCell'])
theorem ok101 : TiOk Tryd.prog 101 ⟨.func, 1, 8, .nilf⟩ := tiOk_mk (.nilFunc) ⟨_, _, _, Tryd.underlying101⟩ (by kernel_rfl) rfl rfl rfl (by simp [Value.cells, Value.oneCell'])
theorem ok102 : TiOk Tryd.prog 102 ⟨.func, 1, 8, .nilf⟩ := tiOk_mk (.nilFunc) ⟨_, _, _, Tryd.underlying102⟩ (by kernel_rfl) rfl rfl rfl (by simp [Value.cells, Value.oneCell'])
theorem ok103 : TiOk Tryd.prog 103 ⟨.func, 1, 8, .nilf⟩ := tiOk_mk (.nilFunc) ⟨_, _, _, Tryd.underlying103⟩ (by kernel_rfl) rfl rfl rfl (by simp [Value.cells, Value.oneCell'])
theorem ok104 : TiOk Tryd.prog 104 ⟨.func, 1, 8, .nilf⟩ := tiOk_mk (.nilFunc) ⟨_, _, _, Tryd.underlying104⟩ (by kernel_rfl) rfl rfl rfl (by simp [Value.cells, Value.oneCell'])
theorem ok105 : TiOk Tryd.prog 105 ⟨.func, 1, 8, .nilf⟩ := tiOk_mk (.nilFunc) ⟨_, _, _, Tryd.underlying105⟩ (by kernel_rfl) rfl rfl rfl (by simp [Value.cells, Value.oneCell'])
theorem ok106 : TiOk Tryd.prog 106 ⟨.func, 1, 8, .nilf⟩ := tiOk_mk (.nilFunc) ⟨_, _, _, Tryd.underlying106⟩ (by kernel_rfl) rfl rfl rfl (by simp [Value.cells, Value.oneCell'])
theorem ok107 : TiOk Tryd.prog 107 ⟨.func, 1, 8, .nilf⟩ := tiOk_mk (.nilFunc) ⟨_, _, _, Tryd.underlying107⟩ (by kernel_rfl) rfl rfl rfl (by simp [Value.cells, Value.oneCell'])
theorem ok108 : TiOk Tryd.prog 108 ⟨.func, 1, 8, .nilf⟩ := tiOk_mk (.nilFunc) ⟨_, _, _, Tryd.underlying108⟩ (by kernel_rfl) rfl rfl rfl (by simp [Value.cells, Value.oneCell'])
theorem ok109 : TiOk Tryd.prog 109 ⟨.ptr 113, 1, 8, .nilp⟩ := tiOk_mk (.pointer none) Tryd.underlying109 (by kernel_rfl) rfl rfl rfl (by simp [Value.cells, Value.oneCell'])
theorem ok110 : TiOk Tryd.prog 110 ⟨.func, 1, 8, .nilf⟩ := tiOk_mk (.nilFunc) ⟨_, _, _, Tryd.underlying110⟩ (by kernel_rfl) rfl rfl rfl (by simp [Value.cells, Value.oneCell'])
theorem ok111 : TiOk Tryd.prog 111 ⟨.ptr 109, 1, 8, .nilp⟩ := tiOk_mk (.pointer none) Tryd.underlying111 (by kernel_rfl) rfl rfl rfl (by simp [Value.cells, Value.oneCell'])
theorem ok112 : TiOk Tryd.prog 112 ⟨.struct [(0, 9), (1, 3), (2, 33), (3, 30)], 4, 48, .agg [.str ⟨#[]⟩, .int .i64 0, .int .i64 0, .nili]⟩ := tiOk_mk (.agg #[.string ⟨#[]⟩, .int .i64 0, .int .i64 0, .nilIface]) ⟨_, Tryd.underlying112, rfl⟩ (by kernel_rfl) rfl rfl rfl (by simp [Value.cells, Value.oneCell'])
theorem ok113 : TiOk Tryd.prog 113 ⟨.struct [(0, 9), (1, 3), (2, 33), (3, 30)], 4, 48, .agg [.str ⟨#[]⟩, .int .i64 0, .int .i64 0, .nili]⟩ := tiOk_mk (.agg #[.string ⟨#[]⟩, .int .i64 0, .int .i64 0, .nilIface]) ⟨_, Tryd.underlying113, rfl⟩ (by kernel_rfl) rfl rfl rfl (by simp [Value.cells, Value.oneCell'])
theorem ok114 : TiOk Tryd.prog 114 ⟨.func, 1, 8, .nilf⟩ := tiOk_mk (.nilFunc) ⟨_, _, _, Tryd.underlying114⟩ (by kernel_rfl) rfl rfl rfl (by simp [Value.cells, Value.oneCell'])
theorem ok115 : TiOk Tryd.prog 115 ⟨.func, 1, 8, .nilf⟩ := tiOk_mk (.nilFunc) ⟨_, _, _, Tryd.underlying115⟩ (by kernel_rfl) rfl rfl rfl (by simp [Value.cells, Value.oneCell'])
theorem ok116 : TiOk Tryd.prog 116 ⟨.func, 1, 8, .nilf⟩ := tiOk_mk (.nilFunc) ⟨_, _, _, Tryd.underlying116⟩ (by kernel_rfl) rfl rfl rfl (by simp [Value.cells, Value.oneCell'])
theorem ok117 : TiOk Tryd.prog 117 ⟨.func, 1, 8, .nilf⟩ := tiOk_mk (.nilFunc) ⟨_, _, _, Tryd.underlying117⟩ (by kernel_rfl) rfl rfl rfl (by simp [Value.cells, Value.oneCell'])
theorem ok118 : TiOk Tryd.prog 118 ⟨.func, 1, 8, .nilf⟩ := tiOk_mk (.nilFunc) ⟨_, _, _, Tryd.underlying118⟩ (by kernel_rfl) rfl rfl rfl (by simp [Value.cells, Value.oneCell'])
theorem ok119 : TiOk Tryd.prog 119 ⟨.func, 1, 8, .nilf⟩ := tiOk_mk (.nilFunc) ⟨_, _, _, Tryd.underlying119⟩ (by kernel_rfl) rfl rfl rfl (by simp [Value.cells, Value.oneCell'])
theorem ok120 : TiOk Tryd.prog 120 ⟨.ptr 170, 1, 8, .nilp⟩ := tiOk_mk (.pointer none) Tryd.underlying120 (by kernel_rfl) rfl rfl rfl (by simp [Value.cells, Value.oneCell'])
theorem ok121 : TiOk Tryd.prog 121 ⟨.func, 1, 8, .nilf⟩ := tiOk_mk (.nilFunc) ⟨_, _, _, Tryd.underlying121⟩ (by kernel_rfl) rfl rfl rfl (by simp [Value.cells, Value.oneCell'])
theorem ok122 : TiOk Tryd.prog 122 ⟨.func, 1, 8, .nilf⟩ := tiOk_mk (.nilFunc) ⟨_, _, _, Tryd.underlying122⟩ (by kernel_rfl) rfl rfl rfl (by simp [Value.cells, Value.oneCell'])
theorem ok123 : TiOk Tryd.prog 123 ⟨.func, 1, 8, .nilf⟩ := tiOk_mk (.nilFunc) ⟨_, _, _, Tryd.underlying123⟩ (by kernel_rfl) rfl rfl rfl (by simp [Value.cells, Value.oneCell'])
theorem ok124 : TiOk Tryd.prog 124 ⟨.func, 1, 8, .nilf⟩ := tiOk_mk (.nilFunc) ⟨_, _, _, Tryd.underlying124⟩ (by kernel_rfl) rfl rfl rfl (by simp [Value.cells, Value.oneCell'])
theorem ok125 : TiOk Tryd.prog 125 ⟨.func, 1, 8, .nilf⟩ := tiOk_mk (.nilFunc) ⟨_, _, _, Tryd.underlying125⟩ (by kernel_rfl) rfl rfl rfl (by simp [Value.cells, Value.oneCell'])
theorem ok126 : TiOk Tryd.prog 126 ⟨.struct [(0, 22), (1, 3), (2, 33)], 3, 40, .agg [.nils, .int .i64 0, .int .i64 0]⟩ := tiOk_mk (.agg #[.slice none 0 0, .int .i64 0, .int .i64 0]) ⟨_, Tryd.underlying126, rfl⟩ (by kernel_rfl) rfl rfl rfl (by simp [Value.cells, Value.oneCell'])
theorem ok127 : TiOk Tryd.prog 127 ⟨.struct [(0, 22), (1, 3), (2, 33)], 3, 40, .agg [.nils, .int .i64 0, .int .i64 0]⟩ := tiOk_mk (.agg #[.slice none 0 0, .int .i64 0, .int .i64 0]) ⟨_, Tryd.underlying127, rfl⟩ (by kernel_rfl) rfl rfl rfl (by simp [Value.cells, Value.oneCell'])
theorem ok129 : TiOk Tryd.prog 129 ⟨.func, 1, 8, .nilf⟩ := tiOk_mk (.nilFunc) ⟨_, _, _, Tryd.underlying129⟩ (by kernel_rfl) rfl rfl rfl (by simp [Value.cells, Value.oneCell'])
theorem ok132 : TiOk Tryd.prog 132 ⟨.func, 1, 8, .nilf⟩ := tiOk_mk (.nilFunc) ⟨_, _, _, Tryd.underlying132⟩ (by kernel_rfl) rfl rfl rfl (by simp [Value.cells, Value.oneCell'])
theorem ok134 : TiOk Tryd.prog 134 ⟨.func, 1, 8, .nilf⟩ := tiOk_mk (.nilFunc) ⟨_, _, _, Tryd.underlying134⟩ (by kernel_rfl) rfl rfl rfl (by simp [Value.cells, Value.oneCell'])
theorem ok136 : TiOk Tryd.prog 136 ⟨.func, 1, 8, .nilf⟩ := tiOk_mk (.nilFunc) ⟨_, _, _, Tryd.underlying136⟩ (by kernel_rfl) rfl rfl rfl (by simp [Value.cells, Value.oneCell'])
theorem ok137 : TiOk Tryd.prog 137 ⟨.func, 1, 8, .nilf⟩ := tiOk_mk (.nilFunc) ⟨_, _, _, Tryd.underlying137⟩ (by kernel_rfl) rfl rfl rfl (by simp [Value.cells, Value.oneCell'])
theorem ok138 : TiOk Tryd.prog 138 ⟨.func, 1, 8, .nilf⟩ := tiOk_mk (.nilFunc) ⟨_, _, _, Tryd.underlying138⟩ (by kernel_rfl) rfl rfl rfl (by simp [Value.cells, Value.oneCell'])
theorem ok139 : TiOk Tryd.prog 139 ⟨.func, 1, 8, .nilf⟩ := tiOk_mk (.nilFunc) ⟨_, _, _, Tryd.underlying139⟩ (by kernel_rfl) rfl rfl rfl (by simp [Value.cells, Value.oneCell'])
theorem ok140 : TiOk Tryd.prog 140 ⟨.func, 1, 8, .nilf⟩ := tiOk_mk (.nilFunc) ⟨_, _, _, Tryd.underlying140⟩ (by kernel_rfl) rfl rfl rfl (by simp [Value.cells, Value.oneCell'])
theorem ok141 : TiOk Tryd.prog 141 ⟨.func, 1, 8, .nilf⟩ := tiOk_mk (.nilFunc) ⟨_, _, _, Tryd.underlying141⟩ (by kernel_rfl) rfl rfl rfl (by simp [Value.cells, Value.oneCell'])
theorem ok142 : TiOk Tryd.prog 142 ⟨.func, 1, 8, .nilf⟩ := tiOk_mk (.nilFunc) ⟨_, _, _, Tryd.underlying142⟩ (by kernel_rfl) rfl rfl rfl (by simp [Value.cells, Value.oneCell'])
theorem ok143 : TiOk Tryd.prog 143 ⟨.func, 1, 8, .nilf⟩ := tiOk_mk (.nilFunc) ⟨_, _, _, Tryd.underlying143⟩ (by kernel_rfl) rfl rfl rfl (by simp [Value.cells, Value.oneCell'])
theorem ok144 : TiOk Tryd.prog 144 ⟨.func, 1, 8, .nilf⟩ := tiOk_mk (.nilFunc) ⟨_, _, _, Tryd.underlying144⟩ (by kernel_rfl) rfl rfl rfl (by simp [Value.cells, Value.oneCell'])
theorem ok145 : TiOk Tryd.prog 145 ⟨.func, 1, 8, .nilf⟩ := tiOk_mk (.nilFunc) ⟨_, _, _, Tryd.underlying145⟩ (by kernel_rfl) rfl rfl rfl (by simp [Value.cells, Value.oneCell'])
theorem ok146 : TiOk Tryd.prog 146 ⟨.func, 1, 8, .nilf⟩ := tiOk_mk (.nilFunc) ⟨_, _, _, Tryd.underlying146⟩ (by kernel_rfl) rfl rfl rfl (by simp [Value.cells, Value.oneCell'])
theorem ok147 : TiOk Tryd.prog 147 ⟨.func, 1, 8, .nilf⟩ := tiOk_mk (.nilFunc) ⟨_, _, _, Tryd.underlying147⟩ (by kernel_rfl) rfl rfl rfl (by simp [Value.cells, Value.oneCell'])
theorem ok148 : TiOk Tryd.prog 148 ⟨.func, 1, 8, .nilf⟩ := tiOk_mk (.nilFunc) ⟨_, _, _, Tryd.underlying148⟩ (by kernel_rfl) rfl rfl rfl (by simp [Value.cells, Value.oneCell'])
theorem ok149 : TiOk Tryd.prog 149 ⟨.arr 3 3, 3, 24, .agg [.int .i64 0, .int .i64 0, .int .i64 0]⟩ := tiOk_mk (.agg #[.int .i64 0, .int .i64 0, .int .i64 0]) Tryd.underlying149 (by kernel_rfl) rfl rfl rfl (by simp [Value.cells, Value.oneCell'])
theorem ok150 : TiOk Tryd.prog 150 ⟨.func, 1, 8, .nilf⟩ := tiOk_mk (.nilFunc) ⟨_, _, _, Tryd.underlying150⟩ (by kernel_rfl) rfl rfl rfl (by simp [Value.cells, Value.oneCell'])
theorem ok151 : TiOk Tryd.prog 151 ⟨.int .u64, 1, 8, .int .u64 0⟩ := tiOk_mk (.int .u64 0) Tryd.underlying151 (by kernel_rfl) rfl rfl rfl (by simp [Value.cells, Value.oneCell'])
theorem ok152 : TiOk Tryd.prog 152 ⟨.func, 1, 8, .nilf⟩ := tiOk_mk (.nilFunc) ⟨_, _, _, Tryd.underlying152⟩ (by kernel_rfl) rfl rfl rfl (by simp [Value.cells, Value.oneCell'])
theorem ok153 : TiOk Tryd.prog 153 ⟨.func, 1, 8, .nilf⟩ := tiOk_mk (.nilFunc) ⟨_, _, _, Tryd.underlying153⟩ (by kernel_rfl) rfl rfl rfl (by simp [Value.cells, Value.oneCell'])
theorem ok154 : TiOk Tryd.prog 154 ⟨.arr 4 5, 4, 4, .agg [.int .u8 0, .int .u8 0, .int .u8 0, .int .u8 0]⟩ := tiOk_mk (.agg #[.int .u8 0, .int .u8 0, .int .u8 0, .int .u8 0]) Tryd.underlying154 (by kernel_rfl) rfl rfl rfl (by simp [Value.cells, Value.oneCell'])
theorem ok155 : TiOk Tryd.prog 155 ⟨.func, 1, 8, .nilf⟩ := tiOk_mk (.nilFunc) ⟨_, _, _, Tryd.underlying155⟩ (by kernel_rfl) rfl rfl rfl (by simp [Value.cells, Value.oneCell'])
theorem ok157 : TiOk Tryd.prog 157 ⟨.int .u64, 1, 8, .int .u64 0⟩ := tiOk_mk (.int .u64 0) Tryd.underlying157 (by kernel_rfl) rfl rfl rfl (by simp [Value.cells, Value.oneCell'])
theorem ok160 : TiOk Tryd.prog 160 ⟨.func, 1, 8, .nilf⟩ := tiOk_mk (.nilFunc) ⟨_, _, _, Tryd.underlying160⟩ (by kernel_rfl) rfl rfl rfl (by simp [Value.cells, Value.oneCell'])
theorem ok161 : TiOk Tryd.prog 161 ⟨.iface, 1, 16, .nili⟩ := tiOk_mk (.nilIface) ⟨_, Tryd.underlying161⟩ (by kernel_rfl) rfl rfl rfl (by simp [Value.cells, Value.oneCell'])
theorem ok162 : TiOk Tryd.prog 162 ⟨.iface, 1, 16, .nili⟩ := tiOk_mk (.nilIface) ⟨_, Tryd.underlying162⟩ (by kernel_rfl) rfl rfl rfl (by simp [Value.cells, Value.oneCell'])
theorem ok163 : TiOk Tryd.prog 163 ⟨.func, 1, 8, .nilf⟩ := tiOk_mk (.nilFunc) ⟨_, _, _, Tryd.underlying163⟩ (by kernel_rfl) rfl rfl rfl (by simp [Value.cells, Value.oneCell'])
theorem ok164 : TiOk Tryd.prog 164 ⟨.int .u8, 1, 1, .int .u8 0⟩ := tiOk_mk (.int .u8 0) Tryd.underlying164 (by kernel_rfl) rfl rfl rfl (by simp [Value.cells, Value.oneCell'])
theorem ok165 : TiOk Tryd.prog 165 ⟨.func, 1, 8, .nilf⟩ := tiOk_mk (.nilFunc) ⟨_, _, _, Tryd.underlying165⟩ (by kernel_rfl) rfl rfl rfl (by simp [Value.cells, Value.oneCell'])
theorem ok166 : TiOk Tryd.prog 166 ⟨.func, 1, 8, .nilf⟩ := tiOk_mk (.nilFunc) ⟨_, _, _, Tryd.underlying166⟩ (by kernel_rfl) rfl rfl rfl (by simp [Value.cells, Value.oneCell'])
theorem ok167 : TiOk Tryd.prog 167 ⟨.func, 1, 8, .nilf⟩ := tiOk_mk (.nilFunc) ⟨_, _, _, Tryd.underlying167⟩ (by kernel_rfl) rfl rfl rfl (by simp [Value.cells, Value.oneCell'])
theorem ok168 : TiOk Tryd.prog 168 ⟨.func, 1, 8, .nilf⟩ := tiOk_mk (.nilFunc) ⟨_, _, _, Tryd.underlying168⟩ (by kernel_rfl) rfl rfl rfl (by simp [Value.cells, Value.oneCell'])
theorem ok169 : TiOk Tryd.prog 169 ⟨.struct [(0, 22), (1, 3), (2, 33)], 3, 40, .agg [.nils, .int .i64 0, .int .i64 0]⟩ := tiOk_mk (.agg #[.slice none 0 0, .int .i64 0, .int .i64 0]) ⟨_, Tryd.underlying169, rfl⟩ (by kernel_rfl) rfl rfl rfl (by simp [Value.cells, Value.oneCell'])
theorem ok170 : TiOk Tryd.prog 170 ⟨.struct [(0, 22), (1, 3), (2, 33)], 3, 40, .agg [.nils, .int .i64 0, .int .i64 0]⟩ := tiOk_mk (.agg #[.slice none 0 0, .int .i64 0, .int .i64 0]) ⟨_, Tryd.underlying170, rfl⟩ (by kernel_rfl) rfl rfl rfl (by simp [Value.cells, Value.oneCell'])
theorem ok171 : TiOk Tryd.prog 171 ⟨.func, 1, 8, .nilf⟩ := tiOk_mk (.nilFunc) ⟨_, _, _, Tryd.underlying171⟩ (by kernel_rfl) rfl rfl rfl (by simp [Value.cells, Value.oneCell'])
theorem ok181 : TiOk Tryd.prog 181 ⟨.struct [(0, 17)], 1, 8, .agg [.nilp]⟩ := tiOk_mk (.agg #[.pointer none]) ⟨_, Tryd.underlying181, rfl⟩ (by kernel_rfl) rfl rfl rfl (by simp [Value.cells, Value.oneCell'])
theorem ok205 : TiOk Tryd.prog 205 ⟨.int .i32, 1, 4, .int .i32 0⟩ := tiOk_mk (.int .i32 0) Tryd.underlying205 (by kernel_rfl) rfl rfl rfl (by simp [Value.cells, Value.oneCell'])
theorem ok206 : TiOk Tryd.prog 206 ⟨.int .i32, 1, 4, .int .i32 0⟩ := tiOk_mk (.int .i32 0) Tryd.underlying206 (by kernel_rfl) rfl rfl rfl (by simp [Value.cells, Value.oneCell'])
theorem ok211 : TiOk Tryd.prog 211 ⟨.struct [(0, 9), (1, 164)], 2, 24, .agg [.str ⟨#[]⟩, .int .u8 0]⟩ := tiOk_mk (.agg #[.string ⟨#[]⟩, .int .u8 0]) ⟨_, Tryd.underlying211, rfl⟩ (by kernel_rfl) rfl rfl rfl (by simp [Value.cells, Value.oneCell'])
theorem ok212 : TiOk Tryd.prog 212 ⟨.struct [(0, 9), (1, 164)], 2, 24, .agg [.str ⟨#[]⟩, .int .u8 0]⟩ := tiOk_mk (.agg #[.string ⟨#[]⟩, .int .u8 0]) ⟨_, Tryd.underlying212, rfl⟩ (by kernel_rfl) rfl rfl rfl (by simp [Value.cells, Value.oneCell'])
theorem ok218 : TiOk Tryd.prog 218 ⟨.int .i32, 1, 4, .int .i32 0⟩ := tiOk_mk (.int .i32 0) Tryd.underlying218 (by kernel_rfl) rfl rfl rfl (by simp [Value.cells, Value.oneCell'])
theorem ok219 : TiOk Tryd.prog 219 ⟨.struct [(0, 205), (1, 206), (2, 218), (3, 218)], 4, 16, .agg [.int .i32 0, .int .i32 0, .int .i32 0, .int .i32 0]⟩ := tiOk_mk (.agg #[.int .i32 0, .int .i32 0, .int .i32 0, .int .i32 0]) ⟨_, Tryd.underlying219, rfl⟩ (by kernel_rfl) rfl rfl rfl (by simp [Value.cells, Value.oneCell'])
theorem ok220 : TiOk Tryd.prog 220 ⟨.struct [(0, 205), (1, 206), (2, 218), (3, 218)], 4, 16, .agg [.int .i32 0, .int .i32 0, .int .i32 0, .int .i32 0]⟩ := tiOk_mk (.agg #[.int .i32 0, .int .i32 0, .int .i32 0, .int .i32 0]) ⟨_, Tryd.underlying220, rfl⟩ (by kernel_rfl) rfl rfl rfl (by simp [Value.cells, Value.oneCell'])
theorem tk_0 : TyOk Tryd.prog ty_0 := by
  intro t i h
  unfold ty_0 at h
  split at h
  · cases h; exact ok1
  · cases h; exact ok2
  · cases h; exact ok3
  · cases h; exact ok4
  · cases h; exact ok5
  · cases h; exact ok6
  · cases h; exact ok7
  · cases h; exact ok8
  · cases h; exact ok9
  · cases h; exact ok10
  · cases h; exact ok11
  · cases h; exact ok12
  · cases h; exact ok13
  · cases h; exact ok14
  · cases h; exact ok15
  · cases h; exact ok16
  · cases h; exact ok17
  · cases h; exact ok18
  · cases h; exact ok19
  · cases h; exact ok20
  · cases h; exact ok21
  · cases h; exact ok22
  · cases h; exact ok23
  · cases h; exact ok24
  · cases h; exact ok25
  · cases h; exact ok26
  · cases h; exact ok27
  · cases h; exact ok28
  · cases h; exact ok29
  · cases h; exact ok30
  · cases h; exact ok32
  · cases h; exact ok33
  · cases h; exact ok35
  · cases h; exact ok36
  · cases h; exact ok37
  · cases h; exact ok38
  · cases h; exact ok39
  · cases h; exact ok40
  · cases h; exact ok41
  · cases h; exact ok43
  · cases h; exact ok45
  · cases h; exact ok46
  · cases h; exact ok47
  · cases h; exact ok48
  · cases h; exact ok49
  · cases h; exact ok50
  · cases h; exact ok51
  · cases h; exact ok52
  · cases h; exact ok53
  · cases h; exact ok54
  · cases h; exact ok55
  · cases h; exact ok57
  · cases h; exact ok58
  · cases h; exact ok59
  · cases h; exact ok60
  · cases h; exact ok61
  · cases h; exact ok62
  · cases h; exact ok63
  · cases h; exact ok65
  · cases h; exact ok67
  · cases h
theorem tk_1 : TyOk Tryd.prog ty_1 := by
  intro t i h
  unfold ty_1 at h
  split at h
  · cases h; exact ok68
  · cases h; exact ok69
  · cases h; exact ok70
  · cases h; exact ok71
  · cases h; exact ok72
  · cases h; exact ok73
  · cases h; exact ok74
  · cases h; exact ok75
  · cases h; exact ok76
  · cases h; exact ok77
  · cases h; exact ok78
  · cases h; exact ok79
  · cases h; exact ok80
  · cases h; exact ok82
  · cases h; exact ok84
  · cases h; exact ok86
  · cases h; exact ok87
  · cases h; exact ok88
  · cases h; exact ok89
  · cases h; exact ok90
  · cases h; exact ok91
  · cases h; exact ok92
  · cases h; exact ok93
  · cases h; exact ok94
  · cases h; exact ok95
  · cases h; exact ok96
  · cases h; exact ok97
  · cases h; exact ok98
  · cases h; exact ok99
  · cases h; exact ok100
  · cases h; exact ok101
  · cases h; exact ok102
  · cases h; exact ok103
  · cases h; exact ok104
  · cases h; exact ok105
  · cases h; exact ok106
  · cases h; exact ok107
  · cases h; exact ok108
  · cases h; exact ok109
  · cases h; exact ok110
  · cases h; exact ok111
  · cases h; exact ok112
  · cases h; exact ok113
  · cases h; exact ok114
  · cases h; exact ok115
  · cases h; exact ok116
  · cases h; exact ok117
  · cases h; exact ok118
  · cases h; exact ok119
  · cases h; exact ok120
  · cases h; exact ok121
  · cases h; exact ok122
  · cases h; exact ok123
  · cases h; exact ok124
  · cases h; exact ok125
  · cases h; exact ok126
  · cases h; exact ok127
  · cases h; exact ok129
  · cases h; exact ok132
  · cases h
theorem tk_2 : TyOk Tryd.prog ty_2 := by
  intro t i h
  unfold ty_2 at h
  split at h
  · cases h; exact ok134
  · cases h; exact ok136
  · cases h; exact ok137
  · cases h; exact ok138
  · cases h; exact ok139
  · cases h; exact ok140
  · cases h; exact ok141
  · cases h; exact ok142
  · cases h; exact ok143
  · cases h; exact ok144
  · cases h; exact ok145
  · cases h; exact ok146
  · cases h; exact ok147
  · cases h; exact ok148
  · cases h; exact ok149
  · cases h; exact ok150
  · cases h; exact ok151
  · cases h; exact ok152
  · cases h; exact ok153
  · cases h; exact ok154
  · cases h; exact ok155
  · cases h; exact ok157
  · cases h; exact ok160
  · cases h; exact ok161
  · cases h; exact ok162
  · cases h; exact ok163
  · cases h; exact ok164
  · cases h; exact ok165
  · cases h; exact ok166
  · cases h; exact ok167
  · cases h; exact ok168
  · cases h; exact ok169
  · cases h; exact ok170
  · cases h; exact ok171
  · cases h; exact ok181
  · cases h
theorem tk_3 : TyOk Tryd.prog ty_3 := by
  intro t i h
  unfold ty_3 at h
  split at h
  · cases h; exact ok205
  · cases h; exact ok206
  · cases h; exact ok211
  · cases h; exact ok212
  · cases h; exact ok218
  · cases h; exact ok219
  · cases h; exact ok220
  · cases h
theorem tk : TyOk Tryd.prog ty := by
  intro t i h
  unfold ty at h
  cases hb0 : Nat.ble t 67
  case true => simp only [hb0, cond_true] at h; exact tk_0 t i h
  cases hb1 : Nat.ble t 132
  case true => simp only [hb1, cond_true, hb0, cond_false] at h; exact tk_1 t i h
  cases hb2 : Nat.ble t 203
  case true => simp only [hb2, cond_true, hb0, cond_false, hb1, cond_false] at h; exact tk_2 t i h
  simp only [hb0, hb1, hb2, cond_false] at h
  exact tk_3 t i h
theorem mixed : Tryd.prog.follows .mixedOrders = true := by kernel_rfl
end Go.Proofs.YtkmlinaofbcbaaaDoor
namespace Go.Proofs.YtkmlinaofbcbaaaDoor
open Go Go.Va
set_option linter.unusedSimpArgs false
set_option linter.unusedVariables false
/-- Errors, as values: none; a fault, with what is under it. -/
inductive Err where
  | nil
  | fault (op : List (BitVec 8)) (at_ : Int) (code : Int) (under : Err)
  deriving DecidableEq
def Err.isNil : Err → Bool
  | .nil => true
  | _ => false
def eErr : Err → AV
  | .nil => .nili
  | .fault o a c u => .iface 109 (.fptr [eS o, eI a, eI c, eErr u] 0)
theorem eErr_cut (nl nt : Nat → Option Nat) : ∀ e, cutAV nl nt (eErr e) = eErr e
  | .nil => rfl
  | .fault o a c u => by simp only [eErr, cutAV, cutL, eErr_cut nl nt u, eS, eI]
theorem eErr_flat (e : Err) : flatAV (eErr e) = true := by cases e <;> rfl
theorem encErr : Enc ty 30 1 eErr := ⟨sz30, by decide, fun x => (by cases x <;> rfl), fun h => (by cases h), fun _ x => (by cases x <;> rfl), fun x => (by cases x <;> rfl), eErr_cut⟩
structure runtime_boundsError where
  x : Int
  y : Int
  signed : Bool
  code : BitVec 8
  deriving DecidableEq
def c_runtime_boundsError (x : runtime_boundsError) : List AV := [eI x.x, eI x.y, eB x.signed, (@eU .u8 8) x.code]
def e_runtime_boundsError (x : runtime_boundsError) : AV := .agg (c_runtime_boundsError x)
def z_runtime_boundsError : runtime_boundsError := ⟨(0 : Int), (0 : Int), false, 0#8⟩
theorem c_runtime_boundsError_cut (nl nt : Nat → Option Nat) (x : runtime_boundsError) : cutL nl nt (c_runtime_boundsError x) = c_runtime_boundsError x := by simp only [cutL, e_runtime_boundsError, c_runtime_boundsError, cutAV, (enc_i64 td2 sz2).cut nl nt, (enc_i64 td3 sz3).cut nl nt, (enc_b td4 sz4).cut nl nt, (enc_u td6 sz6).cut nl nt]
theorem pc_runtime_boundsError (x : runtime_boundsError) : purL (c_runtime_boundsError x) = true := by simp only [c_runtime_boundsError, purL, purL_append, Bool.and_self, Bool.and_true, (show purA (eI x.x) = true from (fun _ => rfl) _), (show purA (eI x.y) = true from (fun _ => rfl) _), (show purA (eB x.signed) = true from (fun _ => rfl) _), (show purA ((@eU .u8 8) x.code) = true from (fun _ => rfl) _)]
theorem pur_runtime_boundsError (x : runtime_boundsError) : purA (e_runtime_boundsError x) = true := pc_runtime_boundsError x
theorem enc7 : Enc ty 7 4 e_runtime_boundsError := ⟨sz7, by decide, fun _ => rfl, fun _ _ => rfl, fun h => (by cases h), fun _ => rfl, fun nl nt x => by simp only [e_runtime_boundsError, cutAV, c_runtime_boundsError_cut]⟩
theorem enc8 : Enc ty 8 4 e_runtime_boundsError := ⟨sz8, by decide, fun _ => rfl, fun _ _ => rfl, fun h => (by cases h), fun _ => rfl, fun nl nt x => by simp only [e_runtime_boundsError, cutAV, c_runtime_boundsError_cut]⟩
structure runtime_errorAddressString where
  msg : List (BitVec 8)
  addr : BitVec 64
  deriving DecidableEq
def c_runtime_errorAddressString (x : runtime_errorAddressString) : List AV := [eS x.msg, (@eU .u64 64) x.addr]
def e_runtime_errorAddressString (x : runtime_errorAddressString) : AV := .agg (c_runtime_errorAddressString x)
def z_runtime_errorAddressString : runtime_errorAddressString := ⟨([] : List (BitVec 8)), 0#64⟩
theorem c_runtime_errorAddressString_cut (nl nt : Nat → Option Nat) (x : runtime_errorAddressString) : cutL nl nt (c_runtime_errorAddressString x) = c_runtime_errorAddressString x := by simp only [cutL, e_runtime_errorAddressString, c_runtime_errorAddressString, cutAV, (enc_s td9 sz9).cut nl nt, (enc_u td12 sz12).cut nl nt]
theorem pc_runtime_errorAddressString (x : runtime_errorAddressString) : purL (c_runtime_errorAddressString x) = true := by simp only [c_runtime_errorAddressString, purL, purL_append, Bool.and_self, Bool.and_true, (show purA (eS x.msg) = true from (fun _ => rfl) _), (show purA ((@eU .u64 64) x.addr) = true from (fun _ => rfl) _)]
theorem pur_runtime_errorAddressString (x : runtime_errorAddressString) : purA (e_runtime_errorAddressString x) = true := pc_runtime_errorAddressString x
theorem enc13 : Enc ty 13 2 e_runtime_errorAddressString := ⟨sz13, by decide, fun _ => rfl, fun _ _ => rfl, fun h => (by cases h), fun _ => rfl, fun nl nt x => by simp only [e_runtime_errorAddressString, cutAV, c_runtime_errorAddressString_cut]⟩
theorem enc14 : Enc ty 14 2 e_runtime_errorAddressString := ⟨sz14, by decide, fun _ => rfl, fun _ _ => rfl, fun h => (by cases h), fun _ => rfl, fun nl nt x => by simp only [e_runtime_errorAddressString, cutAV, c_runtime_errorAddressString_cut]⟩
structure api_Entry where
  Key : List (BitVec 8)
  Version : Int
  AsOf : Int
  Ends : Int
  Value : List (BitVec 8)
  deriving DecidableEq
def c_api_Entry (x : api_Entry) : List AV := [eS x.Key, eI x.Version, eI x.AsOf, eI x.Ends, (eL 1 (@eU .u8 8)) x.Value]
def e_api_Entry (x : api_Entry) : AV := .agg (c_api_Entry x)
def z_api_Entry : api_Entry := ⟨([] : List (BitVec 8)), (0 : Int), (0 : Int), (0 : Int), ([] : List (BitVec 8))⟩
theorem c_api_Entry_cut (nl nt : Nat → Option Nat) (x : api_Entry) : cutL nl nt (c_api_Entry x) = c_api_Entry x := by simp only [cutL, e_api_Entry, c_api_Entry, cutAV, (enc_s td9 sz9).cut nl nt, (enc_i64 td3 sz3).cut nl nt, (enc_i64 td3 sz3).cut nl nt, (enc_i64 td3 sz3).cut nl nt, (enc_l td22 sz22 (enc_u td5 sz5).cut).cut nl nt]
theorem pc_api_Entry (x : api_Entry) : purL (c_api_Entry x) = true := by simp only [c_api_Entry, purL, purL_append, Bool.and_self, Bool.and_true, (show purA (eS x.Key) = true from (fun _ => rfl) _), (show purA (eI x.Version) = true from (fun _ => rfl) _), (show purA (eI x.AsOf) = true from (fun _ => rfl) _), (show purA (eI x.Ends) = true from (fun _ => rfl) _), (show purA ((eL 1 (@eU .u8 8)) x.Value) = true from (pur_eL (fun _ => rfl)) _)]
theorem pur_api_Entry (x : api_Entry) : purA (e_api_Entry x) = true := pc_api_Entry x
theorem enc23 : Enc ty 23 5 e_api_Entry := ⟨sz23, by decide, fun _ => rfl, fun _ _ => rfl, fun h => (by cases h), fun _ => rfl, fun nl nt x => by simp only [e_api_Entry, cutAV, c_api_Entry_cut]⟩
theorem enc24 : Enc ty 24 5 e_api_Entry := ⟨sz24, by decide, fun _ => rfl, fun _ _ => rfl, fun h => (by cases h), fun _ => rfl, fun nl nt x => by simp only [e_api_Entry, cutAV, c_api_Entry_cut]⟩
structure api_Msg where
  Kind : Int
  From : Int
  To : Int
  Epoch : Int
  Id : Int
  X : api_Entry
  Found : Bool
  deriving DecidableEq
def c_api_Msg (x : api_Msg) : List AV := [eI x.Kind] ++ [eI x.From] ++ [eI x.To] ++ [eI x.Epoch] ++ [eI x.Id] ++ (c_api_Entry x.X) ++ [eB x.Found]
def e_api_Msg (x : api_Msg) : AV := .agg (c_api_Msg x)
def z_api_Msg : api_Msg := ⟨(0 : Int), (0 : Int), (0 : Int), (0 : Int), (0 : Int), z_api_Entry, false⟩
theorem c_api_Msg_cut (nl nt : Nat → Option Nat) (x : api_Msg) : cutL nl nt (c_api_Msg x) = c_api_Msg x := by simp only [cutL, e_api_Msg, c_api_Msg, cutAV, (enc_i64 td3 sz3).cut nl nt, (enc_i64 td3 sz3).cut nl nt, (enc_i64 td3 sz3).cut nl nt, (enc_i64 td3 sz3).cut nl nt, (enc_i64 td3 sz3).cut nl nt, (enc_b td4 sz4).cut nl nt, c_api_Entry_cut nl nt, cutL_append]
theorem pc_api_Msg (x : api_Msg) : purL (c_api_Msg x) = true := by simp only [c_api_Msg, purL, purL_append, Bool.and_self, Bool.and_true, (show purA (eI x.Kind) = true from (fun _ => rfl) _), (show purA (eI x.From) = true from (fun _ => rfl) _), (show purA (eI x.To) = true from (fun _ => rfl) _), (show purA (eI x.Epoch) = true from (fun _ => rfl) _), (show purA (eI x.Id) = true from (fun _ => rfl) _), pc_api_Entry x.X, (show purA (eB x.Found) = true from (fun _ => rfl) _)]
theorem pur_api_Msg (x : api_Msg) : purA (e_api_Msg x) = true := pc_api_Msg x
theorem enc25 : Enc ty 25 11 e_api_Msg := ⟨sz25, by decide, fun _ => rfl, fun _ _ => rfl, fun h => (by cases h), fun _ => rfl, fun nl nt x => by simp only [e_api_Msg, cutAV, c_api_Msg_cut]⟩
theorem enc26 : Enc ty 26 11 e_api_Msg := ⟨sz26, by decide, fun _ => rfl, fun _ _ => rfl, fun h => (by cases h), fun _ => rfl, fun nl nt x => by simp only [e_api_Msg, cutAV, c_api_Msg_cut]⟩
structure api_Foot where
  Seq : Int
  Bytes : Int
  Count : Int
  Dead : List Int
  deriving DecidableEq
def c_api_Foot (x : api_Foot) : List AV := [eI x.Seq, eI x.Bytes, eI x.Count, (eL 1 eI) x.Dead]
def e_api_Foot (x : api_Foot) : AV := .agg (c_api_Foot x)
def z_api_Foot : api_Foot := ⟨(0 : Int), (0 : Int), (0 : Int), ([] : List Int)⟩
theorem c_api_Foot_cut (nl nt : Nat → Option Nat) (x : api_Foot) : cutL nl nt (c_api_Foot x) = c_api_Foot x := by simp only [cutL, e_api_Foot, c_api_Foot, cutAV, (enc_i64 td3 sz3).cut nl nt, (enc_i64 td3 sz3).cut nl nt, (enc_i64 td3 sz3).cut nl nt, (enc_l td51 sz51 (enc_i64 td3 sz3).cut).cut nl nt]
theorem pc_api_Foot (x : api_Foot) : purL (c_api_Foot x) = true := by simp only [c_api_Foot, purL, purL_append, Bool.and_self, Bool.and_true, (show purA (eI x.Seq) = true from (fun _ => rfl) _), (show purA (eI x.Bytes) = true from (fun _ => rfl) _), (show purA (eI x.Count) = true from (fun _ => rfl) _), (show purA ((eL 1 eI) x.Dead) = true from (pur_eL (fun _ => rfl)) _)]
theorem pur_api_Foot (x : api_Foot) : purA (e_api_Foot x) = true := pc_api_Foot x
theorem enc52 : Enc ty 52 4 e_api_Foot := ⟨sz52, by decide, fun _ => rfl, fun _ _ => rfl, fun h => (by cases h), fun _ => rfl, fun nl nt x => by simp only [e_api_Foot, cutAV, c_api_Foot_cut]⟩
theorem enc53 : Enc ty 53 4 e_api_Foot := ⟨sz53, by decide, fun _ => rfl, fun _ _ => rfl, fun h => (by cases h), fun _ => rfl, fun nl nt x => by simp only [e_api_Foot, cutAV, c_api_Foot_cut]⟩
structure api_Mark where
  Hash : BitVec 64
  Off : Int
  Size : Int
  deriving DecidableEq
def c_api_Mark (x : api_Mark) : List AV := [(@eU .u64 64) x.Hash, eI x.Off, eI x.Size]
def e_api_Mark (x : api_Mark) : AV := .agg (c_api_Mark x)
def z_api_Mark : api_Mark := ⟨0#64, (0 : Int), (0 : Int)⟩
theorem c_api_Mark_cut (nl nt : Nat → Option Nat) (x : api_Mark) : cutL nl nt (c_api_Mark x) = c_api_Mark x := by simp only [cutL, e_api_Mark, c_api_Mark, cutAV, (enc_u td72 sz72).cut nl nt, (enc_i64 td3 sz3).cut nl nt, (enc_i64 td3 sz3).cut nl nt]
theorem pc_api_Mark (x : api_Mark) : purL (c_api_Mark x) = true := by simp only [c_api_Mark, purL, purL_append, Bool.and_self, Bool.and_true, (show purA ((@eU .u64 64) x.Hash) = true from (fun _ => rfl) _), (show purA (eI x.Off) = true from (fun _ => rfl) _), (show purA (eI x.Size) = true from (fun _ => rfl) _)]
theorem pur_api_Mark (x : api_Mark) : purA (e_api_Mark x) = true := pc_api_Mark x
theorem enc73 : Enc ty 73 3 e_api_Mark := ⟨sz73, by decide, fun _ => rfl, fun _ _ => rfl, fun h => (by cases h), fun _ => rfl, fun nl nt x => by simp only [e_api_Mark, cutAV, c_api_Mark_cut]⟩
theorem enc74 : Enc ty 74 3 e_api_Mark := ⟨sz74, by decide, fun _ => rfl, fun _ _ => rfl, fun h => (by cases h), fun _ => rfl, fun nl nt x => by simp only [e_api_Mark, cutAV, c_api_Mark_cut]⟩
structure trouble_fault where
  op : List (BitVec 8)
  at_ : Int
  code : Int
  under : Err
  deriving DecidableEq
def c_trouble_fault (x : trouble_fault) : List AV := [eS x.op, eI x.at_, eI x.code, eErr x.under]
def e_trouble_fault (x : trouble_fault) : AV := .agg (c_trouble_fault x)
def z_trouble_fault : trouble_fault := ⟨([] : List (BitVec 8)), (0 : Int), (0 : Int), Err.nil⟩
theorem c_trouble_fault_cut (nl nt : Nat → Option Nat) (x : trouble_fault) : cutL nl nt (c_trouble_fault x) = c_trouble_fault x := by simp only [cutL, e_trouble_fault, c_trouble_fault, cutAV, (enc_s td9 sz9).cut nl nt, (enc_i64 td3 sz3).cut nl nt, (enc_i64 td33 sz33).cut nl nt, encErr.cut nl nt]
theorem enc112 : Enc ty 112 4 e_trouble_fault := ⟨sz112, by decide, fun _ => rfl, fun _ _ => rfl, fun h => (by cases h), fun x => (by simp only [e_trouble_fault, c_trouble_fault, AV.cells, List.all_cons, List.all_nil, eErr_flat]; rfl), fun nl nt x => by simp only [e_trouble_fault, cutAV, c_trouble_fault_cut]⟩
theorem enc113 : Enc ty 113 4 e_trouble_fault := ⟨sz113, by decide, fun _ => rfl, fun _ _ => rfl, fun h => (by cases h), fun x => (by simp only [e_trouble_fault, c_trouble_fault, AV.cells, List.all_cons, List.all_nil, eErr_flat]; rfl), fun nl nt x => by simp only [e_trouble_fault, cutAV, c_trouble_fault_cut]⟩
structure butteryref02_Reader where
  B : List (BitVec 8)
  At : Int
  Code : Int
  deriving DecidableEq
def c_butteryref02_Reader (x : butteryref02_Reader) : List AV := [(eL 1 (@eU .u8 8)) x.B, eI x.At, eI x.Code]
def e_butteryref02_Reader (x : butteryref02_Reader) : AV := .agg (c_butteryref02_Reader x)
def z_butteryref02_Reader : butteryref02_Reader := ⟨([] : List (BitVec 8)), (0 : Int), (0 : Int)⟩
theorem c_butteryref02_Reader_cut (nl nt : Nat → Option Nat) (x : butteryref02_Reader) : cutL nl nt (c_butteryref02_Reader x) = c_butteryref02_Reader x := by simp only [cutL, e_butteryref02_Reader, c_butteryref02_Reader, cutAV, (enc_l td22 sz22 (enc_u td5 sz5).cut).cut nl nt, (enc_i64 td3 sz3).cut nl nt, (enc_i64 td33 sz33).cut nl nt]
theorem pc_butteryref02_Reader (x : butteryref02_Reader) : purL (c_butteryref02_Reader x) = true := by simp only [c_butteryref02_Reader, purL, purL_append, Bool.and_self, Bool.and_true, (show purA ((eL 1 (@eU .u8 8)) x.B) = true from (pur_eL (fun _ => rfl)) _), (show purA (eI x.At) = true from (fun _ => rfl) _), (show purA (eI x.Code) = true from (fun _ => rfl) _)]
theorem pur_butteryref02_Reader (x : butteryref02_Reader) : purA (e_butteryref02_Reader x) = true := pc_butteryref02_Reader x
theorem enc126 : Enc ty 126 3 e_butteryref02_Reader := ⟨sz126, by decide, fun _ => rfl, fun _ _ => rfl, fun h => (by cases h), fun _ => rfl, fun nl nt x => by simp only [e_butteryref02_Reader, cutAV, c_butteryref02_Reader_cut]⟩
theorem enc127 : Enc ty 127 3 e_butteryref02_Reader := ⟨sz127, by decide, fun _ => rfl, fun _ _ => rfl, fun h => (by cases h), fun _ => rfl, fun nl nt x => by simp only [e_butteryref02_Reader, cutAV, c_butteryref02_Reader_cut]⟩
structure octets_Reader where
  b : List (BitVec 8)
  at_ : Int
  code : Int
  deriving DecidableEq
def c_octets_Reader (x : octets_Reader) : List AV := [(eL 1 (@eU .u8 8)) x.b, eI x.at_, eI x.code]
def e_octets_Reader (x : octets_Reader) : AV := .agg (c_octets_Reader x)
def z_octets_Reader : octets_Reader := ⟨([] : List (BitVec 8)), (0 : Int), (0 : Int)⟩
theorem c_octets_Reader_cut (nl nt : Nat → Option Nat) (x : octets_Reader) : cutL nl nt (c_octets_Reader x) = c_octets_Reader x := by simp only [cutL, e_octets_Reader, c_octets_Reader, cutAV, (enc_l td22 sz22 (enc_u td5 sz5).cut).cut nl nt, (enc_i64 td3 sz3).cut nl nt, (enc_i64 td33 sz33).cut nl nt]
theorem pc_octets_Reader (x : octets_Reader) : purL (c_octets_Reader x) = true := by simp only [c_octets_Reader, purL, purL_append, Bool.and_self, Bool.and_true, (show purA ((eL 1 (@eU .u8 8)) x.b) = true from (pur_eL (fun _ => rfl)) _), (show purA (eI x.at_) = true from (fun _ => rfl) _), (show purA (eI x.code) = true from (fun _ => rfl) _)]
theorem pur_octets_Reader (x : octets_Reader) : purA (e_octets_Reader x) = true := pc_octets_Reader x
theorem enc169 : Enc ty 169 3 e_octets_Reader := ⟨sz169, by decide, fun _ => rfl, fun _ _ => rfl, fun h => (by cases h), fun _ => rfl, fun nl nt x => by simp only [e_octets_Reader, cutAV, c_octets_Reader_cut]⟩
theorem enc170 : Enc ty 170 3 e_octets_Reader := ⟨sz170, by decide, fun _ => rfl, fun _ _ => rfl, fun h => (by cases h), fun _ => rfl, fun nl nt x => by simp only [e_octets_Reader, cutAV, c_octets_Reader_cut]⟩
structure reflectlite_ValueError where
  Method : List (BitVec 8)
  Kind : BitVec 8
  deriving DecidableEq
def c_reflectlite_ValueError (x : reflectlite_ValueError) : List AV := [eS x.Method, (@eU .u8 8) x.Kind]
def e_reflectlite_ValueError (x : reflectlite_ValueError) : AV := .agg (c_reflectlite_ValueError x)
def z_reflectlite_ValueError : reflectlite_ValueError := ⟨([] : List (BitVec 8)), 0#8⟩
theorem c_reflectlite_ValueError_cut (nl nt : Nat → Option Nat) (x : reflectlite_ValueError) : cutL nl nt (c_reflectlite_ValueError x) = c_reflectlite_ValueError x := by simp only [cutL, e_reflectlite_ValueError, c_reflectlite_ValueError, cutAV, (enc_s td9 sz9).cut nl nt, (enc_u td164 sz164).cut nl nt]
theorem pc_reflectlite_ValueError (x : reflectlite_ValueError) : purL (c_reflectlite_ValueError x) = true := by simp only [c_reflectlite_ValueError, purL, purL_append, Bool.and_self, Bool.and_true, (show purA (eS x.Method) = true from (fun _ => rfl) _), (show purA ((@eU .u8 8) x.Kind) = true from (fun _ => rfl) _)]
theorem pur_reflectlite_ValueError (x : reflectlite_ValueError) : purA (e_reflectlite_ValueError x) = true := pc_reflectlite_ValueError x
theorem enc211 : Enc ty 211 2 e_reflectlite_ValueError := ⟨sz211, by decide, fun _ => rfl, fun _ _ => rfl, fun h => (by cases h), fun _ => rfl, fun nl nt x => by simp only [e_reflectlite_ValueError, cutAV, c_reflectlite_ValueError_cut]⟩
theorem enc212 : Enc ty 212 2 e_reflectlite_ValueError := ⟨sz212, by decide, fun _ => rfl, fun _ _ => rfl, fun h => (by cases h), fun _ => rfl, fun nl nt x => by simp only [e_reflectlite_ValueError, cutAV, c_reflectlite_ValueError_cut]⟩
structure abi_Method where
  Name : Int
  Mtyp : Int
  Ifn : Int
  Tfn : Int
  deriving DecidableEq
def c_abi_Method (x : abi_Method) : List AV := [(eK .i32) x.Name, (eK .i32) x.Mtyp, (eK .i32) x.Ifn, (eK .i32) x.Tfn]
def e_abi_Method (x : abi_Method) : AV := .agg (c_abi_Method x)
def z_abi_Method : abi_Method := ⟨(0 : Int), (0 : Int), (0 : Int), (0 : Int)⟩
theorem c_abi_Method_cut (nl nt : Nat → Option Nat) (x : abi_Method) : cutL nl nt (c_abi_Method x) = c_abi_Method x := by simp only [cutL, e_abi_Method, c_abi_Method, cutAV, (enc_i td205 sz205).cut nl nt, (enc_i td206 sz206).cut nl nt, (enc_i td218 sz218).cut nl nt, (enc_i td218 sz218).cut nl nt]
theorem pc_abi_Method (x : abi_Method) : purL (c_abi_Method x) = true := by simp only [c_abi_Method, purL, purL_append, Bool.and_self, Bool.and_true, (show purA ((eK .i32) x.Name) = true from (fun _ => rfl) _), (show purA ((eK .i32) x.Mtyp) = true from (fun _ => rfl) _), (show purA ((eK .i32) x.Ifn) = true from (fun _ => rfl) _), (show purA ((eK .i32) x.Tfn) = true from (fun _ => rfl) _)]
theorem pur_abi_Method (x : abi_Method) : purA (e_abi_Method x) = true := pc_abi_Method x
theorem enc219 : Enc ty 219 4 e_abi_Method := ⟨sz219, by decide, fun _ => rfl, fun _ _ => rfl, fun h => (by cases h), fun _ => rfl, fun nl nt x => by simp only [e_abi_Method, cutAV, c_abi_Method_cut]⟩
theorem enc220 : Enc ty 220 4 e_abi_Method := ⟨sz220, by decide, fun _ => rfl, fun _ _ => rfl, fun h => (by cases h), fun _ => rfl, fun nl nt x => by simp only [e_abi_Method, cutAV, c_abi_Method_cut]⟩
end Go.Proofs.YtkmlinaofbcbaaaDoor
namespace Go.Proofs.YtkmlinaofbcbaaaDoor
open Go Go.Va
set_option linter.unusedVariables false
set_option linter.unusedSimpArgs false
set_option maxRecDepth 20000
noncomputable def butteryref02_Same_b0 (x0 : List (BitVec 8)) (x1 : List (BitVec 8)) (c8 : Int) : Option ((Int) ⊕ (Unit ⊕ (Bool))) :=
  lt (((x0).length : Int)) fun v19 =>
  lt (decide (c8 < v19)) fun v21 =>
  if v21 = true then
    (ix x0 c8).bind fun v24 =>
    (ix x1 c8).bind fun v26 =>
    lt (v24 != v26) fun v28 =>
    if v28 = true then
      some (.inr (.inr false))
    else
      lt (w64 (c8 + (1 : Int))) fun v32 =>
      some (.inl v32)
  else
    some (.inr (.inl ()))
noncomputable def butteryref02_Same_l0 (x0 : List (BitVec 8)) (x1 : List (BitVec 8)) (s : Int) : Option (Unit ⊕ (Bool)) := loopO (fun s => butteryref02_Same_b0 x0 x1 s) s
noncomputable def butteryref02_Same (x0 : List (BitVec 8)) (x1 : List (BitVec 8)) : Option (Bool) :=
  lt (((x0).length : Int)) fun v2 =>
  lt (((x1).length : Int)) fun v4 =>
  lt (v2 != v4) fun v6 =>
  if v6 = true then
    some false
  else
    (butteryref02_Same_l0 x0 x1 (0 : Int)).bind fun o9 =>
      Sum.elim (fun s16 : Unit =>
        some true
        ) (fun y => some y) o9
end Go.Proofs.YtkmlinaofbcbaaaDoor
namespace Go.Va
open Go
set_option linter.unusedVariables false
set_option linter.unusedSimpArgs false

theorem loopO_up {S X : Type} {body : S → Option (S ⊕ X)} (g : Nat → S) (n : Nat) {x : X} (h : ∀ i, i < n → body (g i) = some (.inl (g (i + 1)))) (hx : body (g n) = some (.inr x)) : loopO body (g 0) = some x := by
  have key : ∀ k, k ≤ n → loopO body (g (n - k)) = some x := by
    intro k
    induction k with
    | zero => intro _; exact loopO_out hx
    | succ k ih =>
      intro hk
      rw [loopO_in (h (n - (k + 1)) (by omega)), show n - (k + 1) + 1 = n - k by omega]
      exact ih (by omega)
  have := key n (Nat.le_refl _)
  rwa [Nat.sub_self] at this
/-- What a round comes to that may leave. -/
def nx {S X : Type} (o : Option X) (s : S) : S ⊕ X := match o with | none => .inl s | some y => .inr y
/-- A loop that leaves early, at the first round that says so. -/
theorem loopO_find {S X : Type} {body : S → Option (S ⊕ X)} (g : Nat → S) (n : Nat) (f : Nat → Option X) {x : X} (h : ∀ i, i < n → body (g i) = some (nx (f i) (g (i + 1)))) (hx : body (g n) = some (.inr x)) : loopO body (g 0) = some (((List.range n).findSome? f).getD x) := by
  have key : ∀ k, k ≤ n → loopO body (g (n - k)) = some (((List.range' (n - k) k).findSome? f).getD x) := by
    intro k
    induction k with
    | zero => intro _; exact loopO_out hx
    | succ k ih =>
      intro hk
      rw [List.range'_succ, List.findSome?_cons]
      have h1 := h (n - (k + 1)) (by omega)
      cases hf : f (n - (k + 1)) with
      | none =>
        rw [hf] at h1
        rw [loopO_in (s' := g (n - (k + 1) + 1)) h1, show n - (k + 1) + 1 = n - k by omega]
        exact ih (by omega)
      | some y => rw [hf] at h1; exact loopO_out h1
  have := key n (Nat.le_refl _)
  rwa [Nat.sub_self, ← List.range_eq_range'] at this
theorem loopO_inv {S X : Type} {body : S → Option (S ⊕ X)} (I : S → Prop) (m : S → Nat) (Q : X → Prop) (h : ∀ s, I s → (∃ s', body s = some (.inl s') ∧ I s' ∧ m s' < m s) ∨ ∃ x, body s = some (.inr x) ∧ Q x) {s : S} (h0 : I s) : ∃ x, loopO body s = some x ∧ Q x := by
  generalize hk : m s = k
  induction k using Nat.strongRecOn generalizing s with
  | _ k ih =>
    rcases h s h0 with ⟨s', h1, h2, h3⟩ | ⟨x, h1, h2⟩
    · obtain ⟨x, k1, k2⟩ := ih (m s') (hk ▸ h3) h2 rfl
      exact ⟨x, by rw [loopO_in h1]; exact k1, k2⟩
    · exact ⟨x, loopO_out h1, h2⟩
/-- A loop that goes through a list. -/
theorem loopO_foldl {α σ X : Type} (l : List α) (f : σ → α → σ) (fin : σ → X) {body : σ × Int → Option ((σ × Int) ⊕ X)} (h1 : ∀ (s : σ) (i : Nat) (hi : i < l.length), body (s, (i : Int)) = some (.inl (f s l[i], ((i + 1 : Nat) : Int)))) (h2 : ∀ s, body (s, (l.length : Int)) = some (.inr (fin s))) (s0 : σ) : loopO body (s0, 0) = some (fin (l.foldl f s0)) := by
  have := loopO_up (body := body) (fun i => ((l.take i).foldl f s0, (i : Int))) l.length (x := fin (l.foldl f s0)) (fun i hi => by
    rw [h1 _ i hi, List.take_succ_eq_append_getElem hi, List.foldl_append]; rfl) (by rw [List.take_length]; exact h2 _)
  simpa using this
theorem loopO_foldl' {α σ X : Type} (l : List α) (f : σ → α → σ) (fin : σ → X) {body : Int × σ → Option ((Int × σ) ⊕ X)} (h1 : ∀ (s : σ) (i : Nat) (hi : i < l.length), body ((i : Int), s) = some (.inl (((i + 1 : Nat) : Int), f s l[i]))) (h2 : ∀ s, body ((l.length : Int), s) = some (.inr (fin s))) (s0 : σ) : loopO body (0, s0) = some (fin (l.foldl f s0)) := by
  have := loopO_up (body := body) (fun i => ((i : Int), (l.take i).foldl f s0)) l.length (x := fin (l.foldl f s0)) (fun i hi => by
    rw [h1 _ i hi, List.take_succ_eq_append_getElem hi, List.foldl_append]; rfl) (by rw [List.take_length]; exact h2 _)
  simpa using this
/-- A number of rounds. -/
theorem loopO_iter {σ X : Type} (n : Nat) (f : Nat → σ → σ) (fin : σ → X) {body : σ × Int → Option ((σ × Int) ⊕ X)} (h1 : ∀ (s : σ) (i : Nat), i < n → body (s, (i : Int)) = some (.inl (f i s, ((i + 1 : Nat) : Int)))) (h2 : ∀ s, body (s, (n : Int)) = some (.inr (fin s))) (s0 : σ) : loopO body (s0, 0) = some (fin ((List.range n).foldl (fun s i => f i s) s0)) := by
  have := loopO_up (body := body) (fun i => ((List.range i).foldl (fun s i => f i s) s0, (i : Int))) n (x := fin ((List.range n).foldl (fun s i => f i s) s0)) (fun i hi => by
    rw [h1 _ i hi, List.range_succ, List.foldl_append]; rfl) (h2 _)
  simpa using this

theorem ix_nat {α : Type} {l : List α} {i : Nat} (h : i < l.length) : ix l (i : Int) = some l[i] := by
  unfold ix
  rw [if_pos (by omega)]
  simp [h]
theorem ix_get {α : Type} (l : List α) (i : Nat) : ix l (i : Int) = l[i]? := by
  unfold ix
  rw [if_pos (by omega)]
  simp
theorem ix_none {α : Type} {l : List α} {i : Int} (h : i < 0 ∨ (l.length : Int) ≤ i) : ix l i = none := by
  unfold ix
  split
  · rw [List.getElem?_eq_none]; omega
  · rfl
theorem ixA_nat {α : Type} {l : List α} {n i : Nat} (hn : i < n) (h : i < l.length) : ixA n l (i : Int) = some l[i] := by
  unfold ixA
  rw [if_pos ⟨by omega, by omega⟩]
  simp [h]
theorem w64_nat {i : Nat} (h : i < 9223372036854775807) : w64 ((i : Int) + 1) = ((i + 1 : Nat) : Int) := by
  rw [w64_eq (by omega) (by omega)]; omega
theorem whole_eq {α : Type} {n : Nat} {l : List α} (h : l.length = n) : whole n l = some l := by simp [whole, h]
theorem stW_eq {α : Type} {n : Nat} {l y : List α} (h : l.length = n) (h2 : y.length = n) : stW n l y = some y := by simp [stW, whole, h, h2]
theorem app_eq {α : Type} {b : Nat} {l m : List α} (h : (l.length + m.length) * b ≤ 140737488355328) : app b l m = some (l ++ m) := by simp [app, h]
theorem cutTo_eq {α : Type} {l : List α} {n : Nat} (h : n ≤ l.length) : cutTo l (n : Int) = some (l.take n) := by
  unfold cutTo
  rw [if_pos ⟨by omega, by omega⟩]; simp
theorem cutFrom_eq {α : Type} {l : List α} {n : Nat} (h : n ≤ l.length) : cutFrom l (n : Int) = some (l.drop n) := by
  unfold cutFrom
  rw [if_pos ⟨by omega, by omega⟩]; simp
theorem cutO_eq {α : Type} {l : List α} {n m : Nat} (h : n ≤ m) (h2 : m ≤ l.length) : cutO l (n : Int) (m : Int) = some ((l.take m).drop n) := by
  unfold cutO
  rw [if_pos ⟨by omega, by omega, by omega⟩]; simp
theorem sc_eq {y : Int} (h : 0 ≤ y) : sc y = some y.toNat := by
  unfold sc; rw [if_neg (by omega)]
theorem dv_eq {y : Int} (h : y ≠ 0) : dv y = some y := by unfold dv; rw [if_neg h]
theorem dvU_eq {w : Nat} {y : BitVec w} (h : y ≠ 0#w) : dvU y = some y := by unfold dvU; rw [if_neg h]
theorem eqA_eq {α : Type} [DecidableEq α] {n : Nat} {x y : List α} (h : x.length = n) (h2 : y.length = n) : eqA n x y = some (x == y) := by simp [eqA, h, h2]
theorem map_len_foldl {α σ : Type} (P : σ → Prop) (f : σ → α → σ) (h : ∀ s a, P s → P (f s a)) : ∀ (l : List α) (s : σ), P s → P (l.foldl f s)
  | [], s, hs => hs
  | a :: l, s, hs => map_len_foldl P f h l _ (h s a hs)
end Go.Va
namespace Go.Proofs.YtkmlinaofbcbaaaDoor
open Go Go.Va
set_option linter.unusedVariables false
set_option linter.unusedSimpArgs false
set_option maxRecDepth 20000
/-- The code of a fault: of the first one under it that has one. -/
def codeOf : Err → Int
  | .nil => 0
  | .fault o a c u => if c = 0 then codeOf u else c
def trouble_Of_b0 : Err → Option (Err ⊕ (Unit ⊕ Int))
  | .nil => some (.inr (.inl ()))
  | .fault o a c u => if (c != 0) = true then some (.inr (.inr c)) else some (.inl u)
def trouble_Of (x : Err) : Option Int := some (codeOf x)
theorem trouble_Of_l0 : ∀ x : Err, loopO trouble_Of_b0 x = some (if codeOf x = 0 then .inl () else .inr (codeOf x))
  | .nil => loopO_out rfl
  | .fault o a c u => by
    by_cases hc : c = 0
    · rw [loopO_in (s' := u) (by simp [trouble_Of_b0, hc]), trouble_Of_l0 u]; simp [codeOf, hc]
    · rw [loopO_out (x := .inr c) (by simp [trouble_Of_b0, hc])]; simp [codeOf, hc]
end Go.Proofs.YtkmlinaofbcbaaaDoor
namespace Go.Proofs.YtkmlinaofbcbaaaDoor
open Go Go.Va
set_option linter.unusedVariables false
set_option linter.unusedSimpArgs false
set_option maxRecDepth 20000
noncomputable def trouble_Wrap (x0 : List (BitVec 8)) (x1 : Int) (x2 : Err) : Option (Err) :=
  lt (Err.isNil x2) fun v2 =>
  if v2 = true then
    some Err.nil
  else
    lt ((⟨x0, x1, (0 : Int), x2⟩ : trouble_fault)) fun v5 =>
    some (Err.fault v5.op v5.at_ v5.code v5.under)
end Go.Proofs.YtkmlinaofbcbaaaDoor
namespace Go.Proofs.YtkmlinaofbcbaaaDoor
open Go Go.Va
set_option linter.unusedVariables false
set_option linter.unusedSimpArgs false
set_option maxRecDepth 20000
noncomputable def octets_Put_b1 (x1 : List Int) (v6 : Int) (c7 : List (BitVec 8)) (c8 : Int) (v22 : Int) (c23 : Int) : Option ((Int) ⊕ (Int)) :=
  lt (w64 ((7 : Int) * c23)) fun v34 =>
  ((sc v34).map fun m => shr64 v22 m).bind fun v36 =>
  lt (decide (v36 ≥ (128 : Int))) fun v38 =>
  if v38 = true then
    lt (w64 (c23 + (1 : Int))) fun v41 =>
    some (.inl v41)
  else
    some (.inr c23)
noncomputable def octets_Put_l1 (x1 : List Int) (v6 : Int) (c7 : List (BitVec 8)) (c8 : Int) (v22 : Int) (s : Int) : Option (Int) := loopO (fun s => octets_Put_b1 x1 v6 c7 c8 v22 s) s
noncomputable def octets_Put_b2 (x1 : List Int) (v6 : Int) (c8 : Int) (v22 : Int) (c43 : List (BitVec 8)) (c44 : Int) : Option (((List (BitVec 8)) × Int) ⊕ ((List (BitVec 8)))) :=
  lt (decide (c44 > (0 : Int))) fun v55 =>
  if v55 = true then
    lt (w64 ((7 : Int) * c44)) fun v58 =>
    ((sc v58).map fun m => shr64 v22 m).bind fun v60 =>
    lt (BitVec.ofInt 8 v60) fun v62 =>
    lt (v62 ||| 128#8) fun v64 =>
    lt (([v64] : List (BitVec 8))) fun v66 =>
    (app 1 c43 v66).bind fun v68 =>
    lt (w64 (c44 - (1 : Int))) fun v72 =>
    some (.inl (v68, v72))
  else
    some (.inr c43)
noncomputable def octets_Put_l2 (x1 : List Int) (v6 : Int) (c8 : Int) (v22 : Int) (s : (List (BitVec 8)) × Int) : Option ((List (BitVec 8))) := loopO (fun s => octets_Put_b2 x1 v6 c8 v22 s.1 s.2) s
noncomputable def octets_Put_b0 (x1 : List Int) (v6 : Int) (c7 : List (BitVec 8)) (c8 : Int) : Option (((List (BitVec 8)) × Int) ⊕ ((List (BitVec 8)))) :=
  lt (decide (c8 < v6)) fun v19 =>
  if v19 = true then
    (ix x1 c8).bind fun v22 =>
    (octets_Put_l1 x1 v6 c7 c8 v22 (0 : Int)).bind fun s31 =>
      (octets_Put_l2 x1 v6 c8 v22 (c7, s31)).bind fun s52 =>
        lt (BitVec.ofInt 8 v22) fun v75 =>
        lt (v75 &&& 127#8) fun v77 =>
        lt (([v77] : List (BitVec 8))) fun v79 =>
        (app 1 s52 v79).bind fun v81 =>
        lt (w64 (c8 + (1 : Int))) fun v85 =>
        some (.inl (v81, v85))
  else
    some (.inr c7)
noncomputable def octets_Put_l0 (x1 : List Int) (v6 : Int) (s : (List (BitVec 8)) × Int) : Option ((List (BitVec 8))) := loopO (fun s => octets_Put_b0 x1 v6 s.1 s.2) s
noncomputable def octets_Put (x0 : List (BitVec 8)) (x1 : List Int) : Option ((List (BitVec 8))) :=
  (app 1 ([] : List (BitVec 8)) x0).bind fun v2 =>
  lt (((x1).length : Int)) fun v6 =>
  (octets_Put_l0 x1 v6 (v2, (0 : Int))).bind fun s16 =>
    some s16
end Go.Proofs.YtkmlinaofbcbaaaDoor
namespace Go.Proofs.YtkmlinaofbcbaaaDoor
open Go Go.Va
set_option linter.unusedVariables false
set_option linter.unusedSimpArgs false
set_option maxRecDepth 20000
noncomputable def trouble_New (x0 : List (BitVec 8)) (x1 : Int) (x2 : Int) : Option (Err) :=
  lt (x2 == (0 : Int)) fun v2 =>
  if v2 = true then
    some Err.nil
  else
    lt ((⟨x0, x1, x2, Err.nil⟩ : trouble_fault)) fun v5 =>
    some (Err.fault v5.op v5.at_ v5.code v5.under)
end Go.Proofs.YtkmlinaofbcbaaaDoor
namespace Go.Proofs.YtkmlinaofbcbaaaDoor
open Go Go.Va
set_option linter.unusedVariables false
set_option linter.unusedSimpArgs false
set_option maxRecDepth 20000
noncomputable def region_Check_b0 (x0 : api_Foot) (v41 : Int) (c42 : Int) (c43 : Int) : Option ((Int × Int) ⊕ (Unit ⊕ (Err))) :=
  lt (decide (c43 < v41)) fun v54 =>
  if v54 = true then
    (ix x0.Dead c43).bind fun v57 =>
    (
      lt (decide (v57 ≤ c42)) fun v63 =>
      if v63 = true then
        some true
      else
        lt (decide (v57 ≥ x0.Count)) fun v66 =>
        some v66
     : Option (Bool)).bind fun s58 =>
      if s58 = true then
        (trouble_New ([100#8, 101#8, 97#8, 100#8] : List (BitVec 8)) c43 (1 : Int)).bind fun v70 =>
        some (.inr (.inr v70))
      else
        lt (w64 (c43 + (1 : Int))) fun v73 =>
        some (.inl (v57, v73))
  else
    some (.inr (.inl ()))
noncomputable def region_Check_l0 (x0 : api_Foot) (v41 : Int) (s : Int × Int) : Option (Unit ⊕ (Err)) := loopO (fun s => region_Check_b0 x0 v41 s.1 s.2) s
noncomputable def region_Check (x0 : api_Foot) : Option (Err) :=
  (
    lt (decide (x0.Seq < (1 : Int))) fun v6 =>
    if v6 = true then
      some true
    else
      lt (decide (x0.Seq > (1099511627776 : Int))) fun v9 =>
      some v9
   : Option (Bool)).bind fun s1 =>
    if s1 = true then
      (trouble_New ([115#8, 101#8, 113#8] : List (BitVec 8)) x0.Seq (2 : Int)).bind fun v13 =>
      some v13
    else
      (
        lt (decide (x0.Bytes < (0 : Int))) fun v19 =>
        if v19 = true then
          some true
        else
          lt (decide (x0.Bytes > (954368 : Int))) fun v22 =>
          some v22
       : Option (Bool)).bind fun s14 =>
        if s14 = true then
          (trouble_New ([98#8, 121#8, 116#8, 101#8, 115#8] : List (BitVec 8)) x0.Bytes (2 : Int)).bind fun v26 =>
          some v26
        else
          (
            lt (decide (x0.Count < (0 : Int))) fun v32 =>
            if v32 = true then
              some true
            else
              lt (decide (x0.Count > (60 : Int))) fun v35 =>
              some v35
           : Option (Bool)).bind fun s27 =>
            if s27 = true then
              (trouble_New ([99#8, 111#8, 117#8, 110#8, 116#8] : List (BitVec 8)) x0.Count (2 : Int)).bind fun v39 =>
              some v39
            else
              lt (((x0.Dead).length : Int)) fun v41 =>
              (region_Check_l0 x0 v41 ((-1 : Int), (0 : Int))).bind fun o44 =>
                Sum.elim (fun s51 : Unit =>
                  some Err.nil
                  ) (fun y => some y) o44
end Go.Proofs.YtkmlinaofbcbaaaDoor
namespace Go.Proofs.YtkmlinaofbcbaaaDoor
open Go Go.Va
set_option linter.unusedVariables false
set_option linter.unusedSimpArgs false
set_option maxRecDepth 20000
noncomputable def region_Put (x0 : api_Foot) : Option ((List (BitVec 8)) × Err) :=
  (region_Check x0).bind fun v2 =>
  lt (!Err.isNil v2) fun v4 =>
  if v4 = true then
    (trouble_Wrap ([102#8, 111#8, 111#8, 116#8] : List (BitVec 8)) x0.Seq v2).bind fun v7 =>
    some ([], v7)
  else
    lt (([x0.Seq, x0.Bytes, x0.Count] : List Int)) fun v9 =>
    (octets_Put [] v9).bind fun v11 =>
    (octets_Put v11 x0.Dead).bind fun v13 =>
    some (v13, Err.nil)
end Go.Proofs.YtkmlinaofbcbaaaDoor
namespace Go.Proofs.YtkmlinaofbcbaaaDoor
open Go Go.Va
set_option linter.unusedVariables false
set_option linter.unusedSimpArgs false
set_option maxRecDepth 20000
noncomputable def octets_Read (x0 : List (BitVec 8)) : Option (octets_Reader) :=
  (app 1 ([] : List (BitVec 8)) x0).bind fun v2 =>
  lt ((⟨v2, (0 : Int), (0 : Int)⟩ : octets_Reader)) fun v6 =>
  some v6
end Go.Proofs.YtkmlinaofbcbaaaDoor
namespace Go.Proofs.YtkmlinaofbcbaaaDoor
open Go Go.Va
set_option linter.unusedVariables false
set_option linter.unusedSimpArgs false
set_option maxRecDepth 20000
noncomputable def octets_Reader_Fail (x0 : octets_Reader) (x1 : Int) : Option (octets_Reader) :=
  lt (x0.code == (0 : Int)) fun v2 =>
  if v2 = true then
    lt (({ x0 with code := x1 } : octets_Reader)) fun c5 =>
    some c5
  else
    some x0
end Go.Proofs.YtkmlinaofbcbaaaDoor
namespace Go.Proofs.YtkmlinaofbcbaaaDoor
open Go Go.Va
set_option linter.unusedVariables false
set_option linter.unusedSimpArgs false
set_option maxRecDepth 20000
noncomputable def octets_Reader_Number_b0 (x1 : Int) (c1 : Int) (c2 : Int) (c3 : octets_Reader) : Option ((Int × Int × octets_Reader) ⊕ (octets_Reader ⊕ (Int × octets_Reader))) :=
  lt (c3.code == (0 : Int)) fun v14 =>
  if v14 = true then
    lt (((c3.b).length : Int)) fun v17 =>
    lt (decide (c2 ≥ v17)) fun v19 =>
    if v19 = true then
      (octets_Reader_Fail c3 (6 : Int)).bind fun v22 =>
      some (.inr (.inl v22))
    else
      (ix c3.b c2).bind fun v24 =>
      lt (w64 (c2 + (1 : Int))) fun v26 =>
      (
        lt (v24 == 128#8) fun v32 =>
        if v32 = true then
          lt (c1 == (0 : Int)) fun v35 =>
          if v35 = true then
            lt (w64 (c3.at_ + (1 : Int))) fun v38 =>
            lt (v26 == v38) fun v40 =>
            some v40
          else
            some false
        else
          some false
       : Option (Bool)).bind fun s27 =>
        if s27 = true then
          (octets_Reader_Fail c3 (5 : Int)).bind fun v44 =>
          some (.inl (c1, v26, v44))
        else
          lt (shr64 x1 7) fun v46 =>
          lt (decide (c1 > v46)) fun v48 =>
          if v48 = true then
            (octets_Reader_Fail c3 (2 : Int)).bind fun v51 =>
            some (.inl (c1, v26, v51))
          else
            lt (decide (128#8 ≤ v24)) fun v53 =>
            if v53 = true then
              lt (shl64 c1 7) fun v56 =>
              lt (v24 &&& 127#8) fun v58 =>
              lt ((BitVec.toNat v58 : Int)) fun v60 =>
              lt (or64 v56 v60) fun v62 =>
              some (.inl (v62, v26, c3))
            else
              lt (shl64 c1 7) fun v64 =>
              lt ((BitVec.toNat v24 : Int)) fun v66 =>
              lt (or64 v64 v66) fun v68 =>
              lt (decide (v68 > x1)) fun v70 =>
              if v70 = true then
                (octets_Reader_Fail c3 (2 : Int)).bind fun v73 =>
                some (.inl (v68, v26, v73))
              else
                lt (({ c3 with at_ := v26 } : octets_Reader)) fun c75 =>
                some (.inr (.inr (v68, c75)))
  else
    some (.inr (.inl c3))
noncomputable def octets_Reader_Number_l0 (x1 : Int) (s : Int × Int × octets_Reader) : Option (octets_Reader ⊕ (Int × octets_Reader)) := loopO (fun s => octets_Reader_Number_b0 x1 s.1 s.2.1 s.2.2) s
noncomputable def octets_Reader_Number (x0 : octets_Reader) (x1 : Int) : Option (Int × octets_Reader) :=
  (octets_Reader_Number_l0 x1 ((0 : Int), x0.at_, x0)).bind fun o4 =>
    Sum.elim (fun s11 : octets_Reader =>
      some ((0 : Int), s11)
      ) (fun y => some y) o4
end Go.Proofs.YtkmlinaofbcbaaaDoor
namespace Go.Proofs.YtkmlinaofbcbaaaDoor
open Go Go.Va
set_option linter.unusedVariables false
set_option linter.unusedSimpArgs false
set_option maxRecDepth 20000
noncomputable def octets_Reader_Code (x0 : octets_Reader) : Option (Int) :=
  some x0.code
end Go.Proofs.YtkmlinaofbcbaaaDoor
namespace Go.Proofs.YtkmlinaofbcbaaaDoor
open Go Go.Va
set_option linter.unusedVariables false
set_option linter.unusedSimpArgs false
set_option maxRecDepth 20000
noncomputable def octets_Reader_At (x0 : octets_Reader) : Option (Int) :=
  some x0.at_
end Go.Proofs.YtkmlinaofbcbaaaDoor
namespace Go.Proofs.YtkmlinaofbcbaaaDoor
open Go Go.Va
set_option linter.unusedVariables false
set_option linter.unusedSimpArgs false
set_option maxRecDepth 20000
noncomputable def octets_Reader_Left (x0 : octets_Reader) : Option (Int) :=
  lt (((x0.b).length : Int)) fun v2 =>
  lt (w64 (v2 - x0.at_)) fun v4 =>
  some v4
end Go.Proofs.YtkmlinaofbcbaaaDoor
