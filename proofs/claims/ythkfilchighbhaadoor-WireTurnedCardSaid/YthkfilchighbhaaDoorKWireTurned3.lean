/- SPOILT MESSAGES ARE TOLD: of a message's bytes, some bits of which within 32 side by side were turned, no message is read. (part 3 of 7) -/
import Derived.Test.YthkfilchighbhaaDoorKWireTurned2
import Derived.Carry
import Derived.ChangeArms
import Derived.ChangeOld
import Derived.KernelRfl
import Derived.Laws.RangeString
import Derived.Lib.AppendZeros
import Derived.Scope
import Derived.Test.YthkfilchighbhaaDoorProg
import Derived.WideShapes
namespace Go.Va
open Go Go.RowKit
set_option linter.unusedVariables false
set_option linter.unusedSimpArgs false
/-- What is known of a ghost where a variable's cells never change any more. -/
noncomputable def Ghost.frz (G : Ghost) (b : Nat) (vs : List Value) (t top en : Nat) : Ghost :=
  { G with fz := fun x o => if x = b then vs[o]? else G.fz x o, tok := fun i => if i = t then some (b, top, en) else G.tok i, nt := t + 1 }
theorem Inv.freeze {w0 : World} {G : Ghost} {w : World} {σ : St} (h : Inv w0 G w σ) {id b : Nat} {cells : List AV} (hc : σ.objs[id]? = some cells) (hl : G.loc id = some b) (hne : cells ≠ []) (hsp : spcl cells = false) (top en : Nat) (htop : top ≤ cells.length) (hen : en ≤ G.bsz id) :
    ∃ vs, RelL G vs (cells.take top) ∧ (∀ v ∈ vs, v.oneCell' = true) ∧ G.Le (G.frz b vs σ.opn.length top en) ∧ Inv w0 (G.frz b vs σ.opn.length top en) w ⟨σ.objs.set id [], σ.opn ++ [true], σ.gl⟩ := by
  obtain ⟨b', T, vs, k1, k2, k3, k4, k5, k6⟩ := h.loc id cells hc hne hsp
  rw [hl] at k1
  injection k1 with k1
  subst k1
  have hidlt : id < σ.objs.length := h.locdom id b hl
  have hfzb : ∀ o, G.fz b o = none := fun o => h.locfz id b o cells hl hc hne
  have htn : ∀ t x, G.tok t = some x → t ≠ σ.opn.length := fun t x ht => by have := h.tokdom t x ht; omega
  have hvl : (vs.toList.take top).length = top := by have := k4.le; simp; omega
  have h1 : ∀ v ∈ vs.toList.take top, v.oneCell' = true := fun v hv => k5 v (List.mem_of_mem_take hv)
  have hle : G.Le (G.frz b (vs.toList.take top) σ.opn.length top en) :=
    ⟨fun x o v hf => by
      simp only [Ghost.frz]
      rw [if_neg (fun he => by subst he; rw [hfzb o] at hf; cases hf)]
      exact hf, fun _ _ h => h, fun t x ht => by simp [Ghost.frz, htn t x ht, ht], by simp only [Ghost.frz]; have := h.nt; omega, fun _ h => h, fun _ _ _ => rfl⟩
  have key : ∀ (i : Nat) (c : List AV), (σ.objs.set id [])[i]? = some c → c ≠ [] → σ.objs[i]? = some c ∧ i ≠ id := by
    intro i c hc hn
    rw [List.getElem?_set] at hc
    split at hc
    · first
        | (cases hc; exact absurd rfl hn)
        | (split at hc
           · cases hc; exact absurd rfl hn
           · cases hc)
    · rename_i he; exact ⟨hc, Ne.symm he⟩
  have hb : ∀ (i : Nat) (c : List AV), (σ.objs.set id [])[i]? = some c → c ≠ [] → ∀ x, G.loc i = some x → x ≠ b := by
    intro i c hc' hn x hx he
    subst he
    obtain ⟨a1, a2⟩ := key i c hc' hn
    exact a2 (h.locinj i id x c cells hx hl a1 hc hn hne)
  have htok : ∀ t x, σ.opn[t]? = some true → G.tok t = some x → x.1 ≠ b := by
    intro t x ho ht he
    obtain ⟨_, _, _, e4⟩ := h.tok t x.1 x.2.1 x.2.2 ho ht
    exact hne (Option.some.inj ((e4 id (he ▸ hl)).symm.trans hc)).symm
  have htk : ∀ t x, (σ.opn ++ [true])[t]? = some true → (G.frz b (vs.toList.take top) σ.opn.length top en).tok t = some x → (t = σ.opn.length ∧ x = (b, top, en)) ∨ (σ.opn[t]? = some true ∧ G.tok t = some x) := by
    intro t x ho ht
    simp only [Ghost.frz] at ht
    split at ht
    · rename_i he; cases ht; exact .inl ⟨he, rfl⟩
    · have hlt := h.tokdom t x ht
      rw [List.getElem?_append_left hlt] at ho
      exact .inr ⟨ho, ht⟩
  have hrel : RelL G (vs.toList.take top) (cells.take top) := by
    have := k4.rel.take top
    rwa [List.take_take, Nat.min_eq_left htop] at this
  refine ⟨vs.toList.take top, hrel, h1, hle, ⟨h.below, fun x o v hf => ?_, fun i c hc' hn hs => ?_, fun i x o c hl' hc' hn => ?_, h.loclt, fun i x hl' => by simpa using h.locdom i x hl', fun i j x c d hi hj hc' hd hn hn' => h.locinj i j x c d hi hj (key i c hc' hn).1 (key j d hd hn').1 hn hn', fun t x top' en' ho ht => ?_, fun t x ht => ?_, fun t t' x x' a1 a2 a3 a4 a5 => ?_, by simp [Ghost.frz], fun x hx => ?_, h.gl, h.sp_to hle (fun _ _ _ h => h) (fun i a h1 _ => (key i [a] h1 (by simp)).1)⟩⟩
  · simp only [Ghost.frz] at hf
    split at hf
    · rename_i he; subst he
      refine ⟨?_, h1 v (List.mem_iff_getElem?.2 ⟨o, hf⟩)⟩
      rw [cell_of_row _ _ _ vs T (0, 0) k3]
      rw [List.getElem?_take] at hf
      split at hf
      · simpa using hf
      · cases hf
    · exact h.fz x o v hf
  · obtain ⟨a1, a2⟩ := key i c hc' hn
    obtain ⟨b', T', vs', f1, f2, f3, f4, f5, f6⟩ := h.loc i c a1 hn hs
    exact ⟨b', T', vs', f1, f2, f3, f4.mono hle, f5, f6⟩
  · have hxb := hb i c hc' hn x hl'
    simp only [Ghost.frz]
    rw [if_neg hxb]
    exact h.locfz i x o c hl' (key i c hc' hn).1 hn
  · rcases htk t _ ho ht with ⟨rfl, he⟩ | ⟨ho', ht'⟩
    · injection he with e1 e2
      injection e2 with e2 e3
      subst e1; subst e2; subst e3
      refine ⟨k2, ⟨vs, T, k3, by omega⟩, fun o ho => ?_, fun i hi => ?_⟩
      · simp only [Ghost.frz, if_true]
        rw [List.getElem?_eq_none]
        omega
      · rw [List.getElem?_set]
        split
        · first | rfl | rw [if_pos hidlt]
        · rename_i hne2
          have hilt := h.locdom i x hi
          by_cases hz : σ.objs[i] = []
          · rw [List.getElem?_eq_getElem hilt, hz]
          · exact absurd (h.locinj i id x _ cells hi hl (List.getElem?_eq_getElem hilt) hc hz hne) (Ne.symm hne2)
    · obtain ⟨f1, f2, f3, f4⟩ := h.tok t x top' en' ho' ht'
      have hxb : x ≠ b := htok t _ ho' ht'
      refine ⟨f1, f2, fun o ho => ?_, fun i hi => ?_⟩
      · simp only [Ghost.frz]
        rw [if_neg hxb]
        exact f3 o ho
      · rw [List.getElem?_set]
        split
        · first | rfl | rw [if_pos hidlt]
        · exact f4 i hi
  · simp only [Ghost.frz] at ht
    split at ht
    · simp; omega
    · have := h.tokdom t x ht; simp; omega
  · rcases htk t x a1 a3 with ⟨e1, rfl⟩ | ⟨e1, e2⟩ <;> rcases htk t' x' a2 a4 with ⟨f1, rfl⟩ | ⟨f1, f2⟩
    · omega
    · exact absurd a5.symm (htok t' x' f1 f2)
    · exact absurd a5 (htok t x e1 e2)
    · exact h.tokinj t t' x x' e1 f1 e2 f2 a5
  · obtain ⟨f1, f2, f3, f4⟩ := h.lit x hx
    refine ⟨f1, f2, f3, fun t y ho ht => ?_⟩
    rcases htk t y ho ht with ⟨_, rfl⟩ | ⟨e1, e2⟩
    · exact fun he => f3 id (he ▸ hl)
    · exact f4 t y e1 e2
/-- The value of such a variable. -/
theorem frozen_rel {w0 : World} {G : Ghost} {w : World} {σ : St} (hI : Inv w0 G w σ) {id sz n : Nat} {v : Value} (hv : Rel G v (.vec id sz n)) {es : List AV} (hc : σ.objs[id]? = some (flat es)) (hsp : spcl (flat es) = false) (hn : n = es.length) (hz : ∀ e ∈ es, e.cells.length = sz) (hs : sz ≠ 0) :
    ∃ G', G.Le G' ∧ Inv w0 G' w ⟨σ.objs.set id [], σ.opn ++ [true], σ.gl⟩ ∧ Rel G' v (.sl (.own σ.opn.length) sz es) := by
  have hfl := flat_length hz
  cases hv with
  | vec0 A _ _ =>
    have hnil : es = [] := List.eq_nil_of_length_eq_zero hn.symm
    subst hnil
    obtain ⟨hle, hI'⟩ := (hI.kill id).closed .no
    exact ⟨_, hle, hI', .sl0 A 0 _ _ (Nat.zero_le _) (.inr ⟨rfl, Nat.lt_succ_self _⟩)⟩
  | vec _ _ _ c b h0 hc' hm hl hbs =>
    have hne : flat es ≠ [] := fun he => by
      have h2 : (flat es).length = 0 := by rw [he]; rfl
      rw [hfl] at h2
      rcases Nat.mul_eq_zero.1 h2 with h | h
      · omega
      · exact hs h
    obtain ⟨vs, k1, k2, hle, hI'⟩ := hI.freeze hc hl hne hsp (flat es).length (c * sz) (Nat.le_refl _) hbs
    rw [List.take_length] at k1
    refine ⟨_, hle, hI', ?_⟩
    have key := Rel.mkSl (G := G.frz b vs σ.opn.length (flat es).length (c * sz)) (b := b) (o := 0) (c := c) (sz := sz) (t := .own σ.opn.length) (es := es) (news := vs) (by omega) hm hz (k1.mono hle) (fun j u hu => by
      simp only [Ghost.frz, if_true, Nat.zero_add]; exact hu) ⟨by simp [Ghost.frz], .inr (by simp only [Ghost.frz, if_true, Nat.zero_add]; rw [hfl])⟩
    rw [hn]
    exact key
section
variable {P : Program} {Ty : TypeId → Option TI} {n : Nat} {σ : St} {ops : Array Oper}
theorem AWP.frz0 {c : Code} {Q : AExit → (Nat → AV) → St → Prop} {l : List (Nat × AV)} (t : Nat) {id sz m : Nat} {es : List AV} (ht : Va.fm l t = .vec id sz m) (hc : σ.objs[id]? = some (flat es)) (hsp : spcl (flat es) = false) (hm : m = es.length) (hz : ∀ e ∈ es, e.cells.length = sz) (hs : sz ≠ 0)
    (h : AWP P n c Q (Va.fm ((t, .sl (.own σ.opn.length) sz es) :: l)) ⟨σ.objs.set id [], σ.opn ++ [true], σ.gl⟩) : AWP P n c Q (Va.fm l) σ := fun w0 G a w hS => by
  have hr := hS.frm t
  rw [ht] at hr
  obtain ⟨G', hle, hI, hv⟩ := frozen_rel hS.inv hr hc hsp hm hz hs
  refine wp_mono (h w0 G' a w ⟨hI, fun u => ?_, hS.size, hS.defers⟩) ?_
  · simp only [Va.fm, upd]
    split
    · rename_i e; subst e; exact hv
    · exact (hS.frm u).mono hle
  · rintro e a' w' ⟨ae, fr', σ', G2, k1, k2, k3, k4⟩
    exact ⟨ae, fr', σ', G2, k1, hle.trans k2, k3, k4⟩
/-- Nil as a variable. -/
theorem AWP.vec0 {c : Code} {Q : AExit → (Nat → AV) → St → Prop} {l : List (Nat × AV)} (t sz : Nat) (ht : Va.fm l t = .nils ∨ Va.fm l t = .sl .full sz [])
    (h : AWP P n c Q (Va.fm ((t, .vec σ.objs.length sz 0) :: l)) ⟨σ.objs ++ [[]], σ.opn, σ.gl⟩) : AWP P n c Q (Va.fm l) σ := fun w0 G a w hS => by
  refine wp_mono (h w0 G a w ⟨hS.inv.addNone, fun u => ?_, hS.size, hS.defers⟩) (fun _ _ _ h => h)
  simp only [Va.fm, upd]
  split
  · rename_i e
    subst e
    have hr := hS.frm u
    rcases ht with ht | ht
    · rw [ht] at hr
      cases hv : a.tmps.getD u undef <;> rw [hv] at hr <;> cases hr
      exact .vec0 _ _ _
    · rw [ht] at hr
      generalize a.tmps.getD u undef = v at hr
      cases hr with
      | sl b o c t sz es val hc hm hz hf h ht => 
        have := ht.1
        simp at this
        subst this
        exact .vec0 _ _ _
      | sl0 A c t sz hm ht =>
        obtain rfl := (ht.resolve_left (by simp)).1
        exact .vec0 _ _ _
  · exact hS.frm u
end
theorem set_erase {α : Type} : ∀ (O : List α) (k : Nat), (O.eraseIdx k).Sublist O
  | [], _ => by simp
  | a :: O, 0 => by simp
  | a :: O, k + 1 => by simp only [List.eraseIdx_cons_succ]; exact (set_erase O k).cons_cons a
theorem mem_erase_dist {O : List (Nat × List AV)} (hd : O.Pairwise fun p q => p.1 ≠ q.1) : ∀ {k : Nat} {id : Nat} {c : List AV}, O[k]? = some (id, c) → ∀ p ∈ O.eraseIdx k, p.1 ≠ id := by
  induction hd with
  | nil => intro k id c h; simp at h
  | cons hh ht ih =>
    intro k id c h p hp
    cases k with
    | zero =>
      simp at h hp
      subst h
      exact Ne.symm (hh p hp)
    | succ k =>
      simp only [List.eraseIdx_cons_succ, List.mem_cons] at hp
      simp at h
      rcases hp with rfl | hp
      · exact hh _ (List.mem_of_getElem? h)
      · exact ih h p hp
/-- A new variable is not known any more; what it holds may be anything. -/
theorem Holds.gone {σ0 σ : St} {O : List (Nat × List AV)} {A : List Nat} (h : Holds σ0 O A σ) (k : Nat) {id : Nat} {c : List AV} (hk : O[k]? = some (id, c)) (hn : σ0.objs.length ≤ id) (c' : List AV) : Holds σ0 (O.eraseIdx k) A ⟨σ.objs.set id c', σ.opn, σ.gl⟩ := by
  have hsub := set_erase O k
  refine ⟨fun i d h1 h2 => ?_, h.opn, by simpa using h.olen, h.tlen, fun p hp => ?_, h.dist.sublist hsub, h.tok, h.tdist, h.gl⟩
  · have hi := (List.getElem?_eq_some_iff.1 h1).1
    simp only
    rw [List.getElem?_set_ne (by omega)]
    refine h.base i d h1 (fun p hp => ?_)
    by_cases hpi : p.1 = i
    · obtain ⟨j, hj⟩ := List.mem_iff_getElem?.1 hp
      by_cases hjk : j = k
      · subst hjk; rw [hk] at hj; cases hj; omega
      · refine h2 p (List.mem_eraseIdx_iff_getElem?.2 ⟨j, hjk, hj⟩)
    · exact hpi
  · simp only
    rw [List.getElem?_set_ne (Ne.symm (mem_erase_dist h.dist hk p hp))]
    exact h.obj p (hsub.subset hp)
/-- One is dropped wherever it stands. -/
theorem Holds.dropAt {σ0 σ : St} {O : List (Nat × List AV)} {A : List Nat} (h : Holds σ0 O A σ) (k : Nat) {id : Nat} {c : List AV} (hk : O[k]? = some (id, c)) (hn : σ0.objs.length ≤ id) : Holds σ0 (O.eraseIdx k) A σ := by
  have := h.gone k hk hn c
  have e : σ.objs.set id c = σ.objs := by
    obtain ⟨hlt, hg⟩ := List.getElem?_eq_some_iff.1 (h.at_ k hk)
    rw [← hg, List.set_getElem_self]
  rwa [e] at this
/-- A new variable has another name. -/
theorem Holds.renew {σ0 σ : St} {O : List (Nat × List AV)} {A : List Nat} (h : Holds σ0 O A σ) (k : Nat) {id : Nat} {c : List AV} (hk : O[k]? = some (id, c)) (hn : σ0.objs.length ≤ id) (c' : List AV) : Holds σ0 (O.set k (σ.objs.length, c')) A ⟨σ.objs.set id [] ++ [c'], σ.opn, σ.gl⟩ := by
  have h1 := (h.gone k hk hn []).add c'
  simp only [List.length_set] at h1
  have hkl : k < O.length := (List.getElem?_eq_some_iff.1 hk).1
  refine h1.pick (fun p hp => ?_) ?_ (fun p hp => ?_) (fun t ht => ht) h1.tdist
  · obtain ⟨j, hj⟩ := List.mem_iff_getElem?.1 hp
    by_cases hjk : k = j
    · subst hjk
      rw [List.getElem?_set_self hkl] at hj
      cases hj
      exact List.mem_cons_self
    · rw [List.getElem?_set_ne hjk] at hj
      exact List.mem_cons_of_mem _ (List.mem_eraseIdx_iff_getElem?.2 ⟨j, Ne.symm hjk, hj⟩)
  · have key : ∀ (i : Nat) (y : Nat × List AV), O[i]? = some y → σ.objs.length ≠ y.1 := fun i y hi => by
      have := (List.getElem?_eq_some_iff.1 (h.obj y (List.mem_of_getElem? hi))).1
      omega
    refine pairwise_set (fun a b h => Ne.symm h) k h.dist (fun y => ?_) (fun i y hi _ => key i y hi)
    by_cases hy : y ∈ O
    · obtain ⟨i, hi⟩ := List.mem_iff_getElem?.1 hy
      exact .inl (key i y hi)
    · exact .inr (.inr hy)
  · right
    rcases List.mem_cons.1 hp with rfl | hp
    · exact ⟨_, List.mem_iff_getElem?.2 ⟨k, by rw [List.getElem?_set_self hkl]⟩, rfl⟩
    · obtain ⟨j, hjk, hj⟩ := List.mem_eraseIdx_iff_getElem?.1 hp
      exact ⟨p, List.mem_iff_getElem?.2 ⟨j, by rw [List.getElem?_set_ne (Ne.symm hjk)]; exact hj⟩, rfl⟩
section
variable {P : Program} {Ty : TypeId → Option TI} {n : Nat} {σ : St} {ops : Array Oper} {σ0 : St} {O : List (Nat × List AV)} {A : List Nat} {fr : Nat → AV} {d : Option Tmp} {ty : TypeId} {pos : String} {af : Array Edge} {g : Option (Nat × Bool)} {ox oy oi : Operand} {T T' E U : TypeId} {α : Type} {e : α → AV} {sz : Nat}
theorem AWP.frz {c : Code} {Q : AExit → (Nat → AV) → St → Prop} {l : List (Nat × AV)} (hH : Holds σ0 O A σ) (k t : Nat) {id m : Nat} {x : List α} (hk : O[k]? = some (id, cL e x)) (hn : σ0.objs.length ≤ id) (he : Enc Ty E sz e) (ht : Va.fm l t = .vec id sz m) (hm : x.length = m)
    (h : ∀ tk τ, Holds σ0 (O.eraseIdx k) (tk :: A) τ → AWP P n c Q (Va.fm ((t, eT tk sz e x) :: l)) τ) : AWP P n c Q (Va.fm l) σ := by
  refine AWP.frz0 t (es := x.map e) ht (hH.at_ k hk) (spcl_cL he x) (by rw [List.length_map]; exact hm.symm) (fun y hy => by obtain ⟨z, _, rfl⟩ := List.mem_map.1 hy; exact he.len z) he.pos ?_
  exact h _ _ (hH.gone k hk hn []).more
theorem AWP.vecN {c : Code} {Q : AExit → (Nat → AV) → St → Prop} {l : List (Nat × AV)} (hH : Holds σ0 O A σ) (t sz : Nat) (ht : Va.fm l t = .nils ∨ Va.fm l t = .sl .full sz [])
    (h : ∀ id τ, Holds σ0 ((id, []) :: O) A τ → σ0.objs.length ≤ id → AWP P n c Q (Va.fm ((t, .vec id sz 0) :: l)) τ) : AWP P n c Q (Va.fm l) σ :=
  AWP.vec0 t sz ht (h _ _ (hH.add []) hH.olen)
theorem srcC_of {m : List α} {a : AV} (he : Enc Ty E sz e) (h : SrcOk Ty U sz σ a (m.map e)) (hn : ∀ id off k, a ≠ .msl id off k) : srcC Ty U sz σ a = some (m.length, cL e m) := by
  unfold SrcOk at h
  have gen : (srcOf Ty U sz σ a).map (fun ys => (ys.length, flat ys)) = some (m.length, cL e m) := by rw [h]; simp [cL]
  cases a with
  | msl id off k => exact absurd rfl (hn id off k)
  | vec id z k => simp [srcOf] at h
  | vc id z o k c => simp [srcOf] at h
  | _ => exact gen
/-- What is appended to a variable. -/
def SrcV (Ty : TypeId → Option TI) (U : TypeId) (sz : Nat) (σ : St) (a : AV) (n : Nat) (cs : List AV) : Prop := srcC Ty U sz σ a = some (n, cs)
theorem srv_l {k : Tok} {l : List α} {a : AV} (he : Enc Ty E sz e) (hd : tdOf Ty U = .slice E) (hx : a = .sl k sz (l.map e)) : SrcV Ty U sz σ a l.length (cL e l) :=
  srcC_of he (src_l hd hx) (fun _ _ _ => by rw [hx]; simp)
theorem srv_arr (hH : Holds σ0 O A σ) (k : Nat) {id m : Nat} {l : List α} {a : AV} (hk : O[k]? = some (id, cL e l)) (he : Enc Ty E sz e) (hd : tdOf Ty U = .slice E) (hl : l.length = m) (hx : a = .msl id 0 m) : SrcV Ty U sz σ a l.length (cL e l) := by
  subst hx
  have hlen := cL_length he.len l
  simp only [SrcV, srcC, partOf, hd, row_eq (hH.at_ k hk) (spcl_cL he l)]
  rw [if_pos (by rw [hlen, hl]; omega), List.drop_zero, List.take_of_length_le (by rw [hlen, hl]; exact Nat.le_refl _), hl]
theorem cL_append (l m : List α) : cL e (l ++ m) = cL e l ++ cL e m := by simp [cL, flat_append]
theorem h_appV (hT : TyOk P Ty) (hH : Holds σ0 O A σ) (k : Nat) {i : TI} {id q : Nat} {l m z : List α} (h : app i.bytes l m = some z) (hk : O[k]? = some (id, cL e l)) (hn : σ0.objs.length ≤ id) (he : Enc Ty E sz e) (hd : tdOf Ty T = .slice E) (hi : Ty E = some i) (hsz : i.sz = sz) (hb : 0 < i.bytes) (hx : aeval fr ox = .vec id sz q) (hq : l.length = q) (hs : SrcV Ty U sz σ (aeval fr oy) m.length (cL e m)) :
    ∃ b τ, OpS P ⟨d, .call ⟨.builtin .append, #[ox, oy], #[T, U]⟩, ty, pos, af, g⟩ fr σ (fun a' τ' => a' = (fun b => AV.vec b sz z.length) b ∧ τ' = τ) ∧ (Holds σ0 (O.set k (b, cL e z)) A τ ∧ σ0.objs.length ≤ b) := by
  obtain ⟨h1, rfl⟩ := app_some h
  subst hq
  refine ⟨_, _, OpS.of_aop2 hT rfl (aeval fr) (fun x _ => Wk.refl _) (a := .vec σ.objs.length sz (l.length + m.length)) (σ' := ⟨σ.objs.set id [] ++ [cL e l ++ cL e m], σ.opn, σ.gl⟩) ?_ (.of_eq (by rw [List.length_append])), ?_⟩
  · unfold SrcV at hs
    simp only [aop2, hx, aappendV, hd, hi, row_eq (hH.at_ k hk) (spcl_cL he l)]
    rw [hsz, hs]
    simp only
    rw [if_pos ⟨trivial, Nat.pos_of_ne_zero he.pos, cL_length he.len l, hb, h1⟩]
  · rw [← cL_append]
    exact ⟨hH.renew k hk hn _, hH.olen⟩
theorem wk_vec0n (id sz : Nat) : Wk .nils (.vec id sz 0) := fun G v h => by cases h; exact .vec0 _ _ _
theorem wk_vec0f (id sz : Nat) : Wk (.sl .full sz []) (.vec id sz 0) := fun G v hr => by
  cases hr with
  | sl b o c t sz es val hc hm hz hf h ht => 
    have := ht.1
    simp at this
    subst this
    exact .vec0 _ _ _
  | sl0 A c t sz hm ht =>
    obtain rfl := (ht.resolve_left (by simp)).1
    exact .vec0 _ _ _
/-- Behind a state with one more variable that is nowhere. -/
theorem OpS.addNone {o : Oper} {K : AV → St → Prop} (h : OpS P o fr ⟨σ.objs ++ [[]], σ.opn, σ.gl⟩ K) : OpS P o fr σ K :=
  fun w0 G act w Q K' hI hr hK => h w0 G act w Q K' hI.addNone hr hK
theorem SrcV.addNone {a : AV} {m : Nat} {cs : List AV} (h : SrcV Ty U sz σ a m cs) : SrcV Ty U sz ⟨σ.objs ++ [[]], σ.opn, σ.gl⟩ a m cs := by
  have key : ∀ id off k (r : Nat × List AV), partOf Ty U sz id off k σ = some r → partOf Ty U sz id off k ⟨σ.objs ++ [[]], σ.opn, σ.gl⟩ = some r := by
    intro id off k r hr
    unfold partOf at hr ⊢
    split at hr
    case h_2 => cases hr
    rename_i e cells hd hc
    obtain ⟨hc, hsp⟩ := row_some hc
    have h2 : St.row ⟨σ.objs ++ [[]], σ.opn, σ.gl⟩ id = some cells := row_eq (by simp only; rw [List.getElem?_append_left (List.getElem?_eq_some_iff.1 hc).1, hc]) hsp
    simp only [hd, h2]
    exact hr
  unfold SrcV at *
  cases a with
  | msl id off k => exact key id off k _ h
  | vec id z k =>
    simp only [srcC] at h ⊢
    split at h
    · rename_i hz; rw [if_pos hz]; exact key id 0 k _ h
    · cases h
  | vc id z o k c =>
    simp only [srcC] at h ⊢
    split at h
    · rename_i hz; rw [if_pos hz]; exact key id o k _ h
    · cases h
  | _ => exact h
theorem h_appV0 (hT : TyOk P Ty) (hH : Holds σ0 O A σ) {i : TI} {m z : List α} (h : app i.bytes ([] : List α) m = some z) (he : Enc Ty E sz e) (hd : tdOf Ty T = .slice E) (hi : Ty E = some i) (hsz : i.sz = sz) (hb : 0 < i.bytes) (hne : oy ≠ ox) (hx : aeval fr ox = .nils ∨ aeval fr ox = .sl .full sz []) (hs : SrcV Ty U sz σ (aeval fr oy) m.length (cL e m)) :
    ∃ b τ, OpS P ⟨d, .call ⟨.builtin .append, #[ox, oy], #[T, U]⟩, ty, pos, af, g⟩ fr σ (fun a' τ' => a' = (fun b => AV.vec b sz z.length) b ∧ τ' = τ) ∧ (Holds σ0 ((b, cL e z) :: O) A τ ∧ σ0.objs.length ≤ b) := by
  obtain ⟨h1, hzm⟩ := app_some h
  obtain rfl : z = m := hzm
  have hw : Wk (aeval fr ox) (.vec σ.objs.length sz 0) := by
    rcases hx with hx | hx <;> rw [hx]
    · exact wk_vec0n _ _
    · exact wk_vec0f _ _
  have hs' := hs.addNone
  unfold SrcV at hs'
  classical
  refine ⟨_, _, OpS.addNone (OpS.of_aop2 hT rfl (fun x => if x = ox then .vec σ.objs.length sz 0 else aeval fr x) (fun x _ => ?_) (a := .vec (σ.objs.length + 1) sz (0 + z.length)) (b := .vec (σ.objs.length + 1) sz z.length) (σ' := ⟨(σ.objs ++ [[]]).set σ.objs.length [] ++ [[] ++ cL e z], σ.opn, σ.gl⟩) ?_ (.of_eq (by simp))), ?_⟩
  · split
    · rename_i he; subst he; exact hw
    · exact Wk.refl _
  · simp only [aop2, if_true, if_neg hne, aappendV, hd, hi]
    rw [show St.row ⟨σ.objs ++ [[]], σ.opn, σ.gl⟩ σ.objs.length = some [] from row_eq (by simp) rfl]
    simp only
    rw [hsz, hs']
    simp only
    rw [if_pos ⟨trivial, Nat.pos_of_ne_zero he.pos, by simp, hb, by simpa using h1⟩]
    simp
  · have h2 := (hH.add []).renew 0 rfl hH.olen ([] ++ cL e z)
    simp only [List.length_append, List.length_cons, List.length_nil, Nat.zero_add, List.set_cons_zero] at h2
    refine ⟨?_, by have := hH.olen; omega⟩
    simpa using h2
/-- An element's address. -/
theorem o_vecx (hT : TyOk P Ty) {m id : Nat} {kk : IntKind} {i : Int} {u : Unit} (h : chk m i = some u) (hd : tdOf Ty T = .slice E) (hz : szOf Ty E = sz) (hs : sz ≠ 0) (hx : aeval fr ox = .vec id sz m) (hi : aeval fr oi = .int kk i) : OpP P ⟨d, .indexAddr T ox oi, ty, pos, af, g⟩ fr (.ref id (0 + i.toNat * sz + 0)) := fun τ => by
  refine OpS.of_aop2 hT rfl (aeval fr) (fun x _ => Wk.refl _) (a := .ref id (0 + i.toNat * sz)) ?_ (Wk.refl _)
  simp only [aop2, hx, hi, aindexAddr2, hd]
  rw [if_pos ⟨(chk_some h).1, (chk_some h).2, hz.symm, hs⟩]
  rfl
theorem o_vlen (hT : TyOk P Ty) {m id : Nat} (hd : tdOf Ty T = .slice E) (hx : aeval fr ox = .vec id sz m) : OpP P ⟨d, .call ⟨.builtin .len, #[ox], #[T]⟩, ty, pos, af, g⟩ fr (eI (m : Int)) := fun τ => by
  refine OpS.of_aop2 hT rfl (aeval fr) (fun x _ => Wk.refl _) (a := .int .i64 m) ?_ (Wk.refl _)
  simp only [aop2, hx, alen2, hd]
  rfl
theorem updA_len {m : Nat} {l c : List α} {i : Int} {f : α → α} (h : updA m l i f = some c) : c.length = l.length := by
  obtain ⟨x, _, rfl⟩ := updA_some h
  simp
/-- As many things as are asked for, all noughts. -/
def mkS {α : Type} (b : Nat) (m : Int) (z : α) : Option (List α) := if 0 ≤ m ∧ (b : Int) * m ≤ 281474976710656 ∧ m ≤ 9223372036854775807 then some (List.replicate m.toNat z) else none
/-- make: noughts that never change. -/
theorem wk_vec00 (i j sz : Nat) : Wk (.vec i sz 0) (.vec j sz 0) := fun G v h => by
  cases h with
  | vec0 A _ _ => exact .vec0 _ _ _
  | vec _ _ _ _ _ h0 => exact absurd h0 (Nat.lt_irrefl 0)
/-- The names behind a call that hands back a new variable. -/
theorem kept_new {σ' : St} {id : Nat} {c : List AV} (hid : σ.objs.length ≤ id) (hH : Holds σ [(id, c)] [] σ') (hc : ∀ ρ κ, cutL ρ κ c = c) : Kept σ σ' ⟨σ.objs ++ [c], σ.opn, σ.gl⟩ (fun i => if i = id then some σ.objs.length else idl σ.objs.length i) (idl σ.opn.length) := by
  refine ⟨fun i i' j h1 h2 => ?_, idl_inj _, fun i hi => ?_, fun i hi => by simp [idl, hi], fun i j h => ?_, fun t u h => (idl_lt h).2, Nat.le_refl _, rfl, fun j d hj => ?_, fun t u h hu => ?_⟩
  · try simp only at h1 h2
    split at h1 <;> split at h2
    · rename_i e1 e2; rw [e1, e2]
    · have := (idl_lt h2).2; cases h1; omega
    · have := (idl_lt h1).2; cases h2; omega
    · exact idl_inj _ _ _ _ h1 h2
  · try simp only
    rw [if_neg (by omega)]
    simp [idl, hi]
  · try simp only at h
    split at h
    · cases h; simp
    · have := (idl_lt h).2; simp; omega
  · by_cases hlt : j < σ.objs.length
    · simp only at hj
      rw [List.getElem?_append_left hlt] at hj
      refine ⟨j, d, by rw [if_neg (by omega)]; simp [idl, hlt], hH.base j d hj (fun p hp => ?_), .inl ⟨hj, rfl⟩⟩
      simp at hp
      subst hp
      simp only
      omega
    · have hj2 := (List.getElem?_eq_some_iff.1 hj).1
      simp at hj2
      have : j = σ.objs.length := by omega
      subst this
      simp at hj
      subst hj
      exact ⟨id, c, by simp, hH.obj (id, c) (by simp), .inr (hc _ _).symm⟩
  · obtain ⟨rfl, _⟩ := idl_lt h
    exact hH.opn t hu
theorem cut_vec {ρ κ : Nat → Option Nat} {id j q : Nat} (h : ρ id = some j) : Wk (cutAV ρ κ (.vec id sz q)) (.vec j sz q) := by
  simp only [cutAV]
  split
  · rename_i h0; subst h0; exact wk_vec00 _ _ _
  · rw [h]; exact Wk.refl _
/-- A function that hands back a slice that is a variable. -/
theorem ACall.vec {gg : FuncId} {args : List AV} {q : Nat} {c : List AV} (hc : ∀ ρ κ, cutL ρ κ c = c) (h : ACall P gg args σ (fun a σ' => ∃ id, a = .vec id sz q ∧ σ.objs.length ≤ id ∧ Holds σ [(id, c)] [] σ')) : ACall P gg args σ (fun a σ' => a = .vec σ.objs.length sz q ∧ σ' = ⟨σ.objs ++ [c], σ.opn, σ.gl⟩) :=
  h.ren fun a σ' ⟨id, ha, hid, hH⟩ => by
    subst ha
    exact ⟨_, .vec σ.objs.length sz q, _, _, kept_new hid hH hc, cut_vec (by simp), rfl, rfl⟩
/-- The same, and more. -/
theorem ACall.vecs {gg : FuncId} {args : List AV} {q : Nat} {c rest : List AV} (hc : ∀ ρ κ, cutL ρ κ c = c) (hr : ∀ ρ κ, cutL ρ κ rest = rest) (h : ACall P gg args σ (fun a σ' => ∃ id, a = .tup (.vec id sz q :: rest) ∧ σ.objs.length ≤ id ∧ Holds σ [(id, c)] [] σ')) : ACall P gg args σ (fun a σ' => a = .tup (.vec σ.objs.length sz q :: rest) ∧ σ' = ⟨σ.objs ++ [c], σ.opn, σ.gl⟩) :=
  h.ren fun a σ' ⟨id, ha, hid, hH⟩ => by
    subst ha
    refine ⟨_, .tup (.vec σ.objs.length sz q :: rest), _, _, kept_new hid hH hc, ?_, rfl, rfl⟩
    simp only [cutAV, cutL, hr]
    refine wk_tup (.cons ?_ (WkL.refl _))
    have := cut_vec (sz := sz) (q := q) (ρ := fun i => if i = id then some σ.objs.length else idl σ.objs.length i) (κ := idl σ.opn.length) (id := id) (j := σ.objs.length) (by simp)
    simpa only [cutAV] using this
theorem h_callv (hH : Holds σ0 O A σ) {o : Oper} {f : Operand} {xs : List Operand} {gg : FuncId} {first cap args : List AV} {q : Nat} (c : List AV) (hc : callOf o = some (f, xs)) (hf : aeval fr f = .fn (.func gg) first cap) (hargs : WkL (first ++ xs.map (aeval fr) ++ cap) args)
    (hcall : ACall P gg args σ (fun a τ => a = .vec σ.objs.length sz q ∧ τ = ⟨σ.objs ++ [c], σ.opn, σ.gl⟩)) : ∃ id τ, OpS P o fr σ (fun a' τ' => a' = .vec id sz q ∧ τ' = τ) ∧ (Holds σ0 ((id, c) :: O) A τ ∧ σ0.objs.length ≤ id) :=
  ⟨_, _, OpS.of_call hc hf hargs hcall, hH.add c, hH.olen⟩
theorem h_callvs (hH : Holds σ0 O A σ) {o : Oper} {f : Operand} {xs : List Operand} {gg : FuncId} {first cap args rest : List AV} {q : Nat} (c : List AV) (hc : callOf o = some (f, xs)) (hf : aeval fr f = .fn (.func gg) first cap) (hargs : WkL (first ++ xs.map (aeval fr) ++ cap) args)
    (hcall : ACall P gg args σ (fun a τ => a = .tup (.vec σ.objs.length sz q :: rest) ∧ τ = ⟨σ.objs ++ [c], σ.opn, σ.gl⟩)) : ∃ id τ, OpS P o fr σ (fun a' τ' => a' = .tup (.vec id sz q :: rest) ∧ τ' = τ) ∧ (Holds σ0 ((id, c) :: O) A τ ∧ σ0.objs.length ≤ id) :=
  ⟨_, _, OpS.of_call hc hf hargs hcall, hH.add c, hH.olen⟩
end
end Go.Va
namespace Go.Va
open Go Go.RowKit
set_option linter.unusedVariables false
set_option linter.unusedSimpArgs false
/-- slices.Delete, where there is something. -/
def delO {α : Type} (l : List α) (i j : Int) : Option (List α) := if 0 ≤ i ∧ i ≤ j ∧ j ≤ l.length ∧ i < l.length then some (l.take i.toNat ++ l.drop j.toNat) else none
section
variable {P : Program} {Ty : TypeId → Option TI} {n : Nat} {σ : St} {ops : Array Oper} {fr : Nat → AV} {d : Option Tmp} {ty : TypeId} {pos : String} {af : Array Edge} {g : Option (Nat × Bool)} {ox oy oi : Operand} {T T' E U : TypeId} {α : Type} {e : α → AV} {sz id off m cap : Nat}
/-- A slice that is a variable: its room is as it is. -/
theorem ACall.room {gg : FuncId} {rest : List AV} {K : AV → St → Prop} (h0 : 0 < m) (h : ∀ c, m ≤ c → ACall P gg (.vc id sz 0 m c :: rest) σ K) : ACall P gg (.vec id sz m :: rest) σ K := by
  refine ⟨(h m (Nat.le_refl _)).1, fun w0 G w vs hI hr => ?_⟩
  have hl := hr.len
  cases hv : vs.toList with
  | nil => rw [hv] at hl; simp at hl
  | cons v vs' =>
    rw [hv] at hr
    have h1 := hr.at_ 0 v _ rfl rfl
    cases h1 with
    | vec0 A _ _ => omega
    | vec _ _ _ c b h0 hc hm hl hs =>
      refine (h c hc).2 w0 G w vs hI ?_
      rw [hv]
      refine RelL.cons (.vc id sz 0 m c b hc hm hl (by omega)) ⟨by simpa using hr.len, fun i u a e1 e2 => hr.at_ (i + 1) u a (by simpa using e1) (by simpa using e2)⟩
/-- What is left of a variable is a slice that never changes. -/
theorem cL_take (he : ∀ x, (e x).cells.length = sz) (l : List α) (a : Nat) : (cL e l).take (a * sz) = cL e (l.take a) := by
  by_cases h : a ≤ l.length
  · have e1 : cL e l = cL e (l.take a) ++ cL e (l.drop a) := by rw [← cL_append, List.take_append_drop]
    rw [e1, List.take_left' (by rw [cL_length he, List.length_take, Nat.min_eq_left h])]
  · rw [List.take_of_length_le (by rw [cL_length he]; exact Nat.mul_le_mul_right _ (by omega)), List.take_of_length_le (by omega)]
theorem cL_drop (he : ∀ x, (e x).cells.length = sz) (l : List α) (a : Nat) : (cL e l).drop (a * sz) = cL e (l.drop a) := by
  by_cases h : a ≤ l.length
  · have e1 : cL e l = cL e (l.take a) ++ cL e (l.drop a) := by rw [← cL_append, List.take_append_drop]
    rw [e1, List.drop_left' (by rw [cL_length he, List.length_take, Nat.min_eq_left h])]
  · rw [List.drop_of_length_le (by rw [cL_length he]; exact Nat.mul_le_mul_right _ (by omega)), List.drop_of_length_le (by omega)]; rfl
end
end Go.Va
namespace Go.Va
end Go.Va
namespace Go.Va
/-- copy into an array. -/
def cpV {α : Type} {n : Nat} (v : Vector α n) (l : List α) : Option (Vector α n) := if h : l.length ≤ n then some ⟨(l ++ v.toList.drop l.length).toArray, by simp; omega⟩ else none
section
variable {P : Program} {Ty : TypeId → Option TI} {σ σ0 : St} {O : List (Nat × List AV)} {A' : List Nat} {ops : Array Oper} {fr : Nat → AV} {d : Option Tmp} {ty : TypeId} {pos : String} {af : Array Edge} {g : Option (Nat × Bool)} {ox oy oi : Operand} {T T' E U : TypeId} {α : Type} {e : α → AV} {sz id m cap : Nat}
end
end Go.Va
namespace Go.Va
open Go Go.RowKit
set_option linter.unusedVariables false
set_option linter.unusedSimpArgs false

/-- What is known at a law's begin: what lies in memory. -/
def argG (w : World) : Ghost := ⟨fun b o => match w.cell? ⟨b, o, none⟩ with | some v => if v.oneCell' = true then some v else none | none => none, fun _ => none, fun _ => none, 0, fun _ => false, fun _ => 0⟩
theorem argG_fz {w : World} {b o : Nat} {v : Value} (h : w.cell? ⟨b, o, none⟩ = some v) (h1 : v.oneCell' = true) : (argG w).fz b o = some v := by
  simp [argG, h, h1]
theorem argG_inv (w : World) {gl : List (Addr × Value)} (hgl : ∀ p ∈ gl, w.cell? p.1 = some p.2) : Inv w (argG w) w ⟨[], [], gl⟩ := by
  refine ⟨Below.refl _ _, fun b o v h => ?_, fun id c h => by simp at h, fun id b o c h => by simp [argG] at h, fun id b h => by simp [argG] at h, fun id b h => by simp [argG] at h, fun i j b c d h => by simp [argG] at h, fun t b top en h => by simp at h, fun t x h => by simp [argG] at h, fun t t' x x' h => by simp at h, Nat.le_refl _, fun b h => by simp [argG] at h, hgl, fun id a h => by simp at h⟩
  simp only [argG] at h
  split at h
  case h_2 => cases h
  rename_i u hu
  split at h
  case isFalse => cases h
  rename_i h1
  cases h
  exact ⟨hu, h1⟩
/-- THE BRIDGE. -/
theorem ACall.said {P : Program} {n : FuncId} {args : List AV} {vs : Array Value} {w : World} {gl : List (Addr × Value)} (hgl : ∀ p ∈ gl, w.cell? p.1 = some p.2) (hc : ACall P n args ⟨[], [], gl⟩ (fun a τ => a = eB true ∧ τ = ⟨[], [], gl⟩)) (hr : RelL (argG w) vs.toList args) :
    Calls P n vs w fun e w' => e = .returned (.bool true) ∧ Below w.heap.size w w' :=
  (hc.2 w (argG w) w vs (argG_inv w hgl) hr).mono fun e w' ⟨v, a, σ', G', h1, _, h3, h4, h5, _⟩ => by
    subst h5
    cases h4
    exact ⟨h1, h3.below⟩

/-- Data of a type, in memory, are values of a kind. -/
def Opens (P : Program) (t : TypeId) {α : Type} (e : α → AV) (wf : α → Prop) : Prop :=
  ∀ {H : Type} (enc : TypeId × Value → H) (w : World) (fuel : Nat) (cs : List Value) (x : DataW H × List MemPlace), DataW.trod enc P w 0 (fun _ => true) true fuel t cs = some x → ∃ y : α, wf y ∧ RelL (argG w) cs (e y).cells ∧ ∀ v ∈ cs, v.oneCell' = true
def wfI (k : IntKind) (n : Int) : Prop := k.min ≤ n ∧ n ≤ k.max
def wfL {α : Type} (wf : α → Prop) (l : List α) : Prop := l.length ≤ maxLen ∧ ∀ x ∈ l, wf x
def wfS (s : List (BitVec 8)) : Prop := s.length ≤ maxLen
def wfT {α : Type} (_ : α) : Prop := True
section
variable {P : Program} {Ty : TypeId → Option TI} {t E : TypeId}
theorem wf_iff {k : IntKind} {n : Int} (h : (Lit.int k n).wf = true) : wfI k n := by
  simp only [Lit.wf, Bool.and_eq_true, decide_eq_true_eq] at h; exact h
theorem opens_i {k : IntKind} (h : P.underlying t = some (.int k)) : Opens P t (eK k) (wfI k) := by
  intro H enc w fuel cs x hx
  obtain ⟨n, rfl, _, hw⟩ := DataW.trod_int h hx
  exact ⟨n, wf_iff hw, (RelL.nil _).cons (.int _ _), by simp [Value.oneCell']⟩
theorem opens_i64 (h : P.underlying t = some (.int .i64)) : Opens P t eI (wfI .i64) := opens_i h
theorem opens_u {k : IntKind} {m : Nat} (hs : k.signed = false) (hb : k.bits = m) (h : P.underlying t = some (.int k)) : Opens P t (@eU k m) wfT := by
  subst hb
  intro H enc w fuel cs x hx
  obtain ⟨n, rfl, _, hw⟩ := DataW.trod_int h hx
  have hw := wf_iff hw
  simp only [wfI, IntKind.min, IntKind.max, hs, Bool.false_eq_true, if_false] at hw
  refine ⟨BitVec.ofInt k.bits n, trivial, ?_, by simp [Value.oneCell']⟩
  have e : ((BitVec.ofInt k.bits n).toNat : Int) = n := by
    rw [BitVec.toNat_ofInt]
    have h2 : (2 : Int) ^ k.bits = ((2 ^ k.bits : Nat) : Int) := by simp
    rw [h2] at hw
    rw [Int.emod_eq_of_lt hw.1 (by omega), Int.toNat_of_nonneg hw.1]
  show RelL _ _ [AV.int k ((BitVec.ofInt k.bits n).toNat : Int)]
  rw [e]
  exact (RelL.nil _).cons (.int _ _)
theorem opens_b (h : P.underlying t = some .bool) : Opens P t eB wfT := by
  intro H enc w fuel cs x hx
  obtain ⟨b, rfl, _⟩ := DataW.trod_bool h hx
  exact ⟨b, trivial, (RelL.nil _).cons (.bool _), by simp [Value.oneCell']⟩
theorem opens_s (h : P.underlying t = some .string) : Opens P t eS wfS := by
  intro H enc w fuel cs x hx
  obtain ⟨s, rfl, _, hs⟩ := DataW.trod_string h hx
  refine ⟨s.data.toList.map (·.toBitVec), ?_, ?_, by simp [Value.oneCell']⟩
  · simpa [wfS] using hs
  · show RelL _ _ [AV.str _]
    rw [mkB_of]
    exact (RelL.nil _).cons (.str _)
theorem cellsOf_ty (hT : TyOk P Ty) {i : TI} (h : Ty t = some i) : P.cellsOf t = i.sz := by
  obtain ⟨_, ti, z, h1, h2, _⟩ := hT t i h
  simp [Program.cellsOf, h1, h2]
theorem cellsOf_sz (hT : TyOk P Ty) {sz : Nat} (h : szOf Ty t = sz) (h0 : sz ≠ 0) : P.cellsOf t = sz := by
  unfold szOf at h
  split at h
  · rename_i i hi; rw [cellsOf_ty hT hi, h]
  · exact absurd h.symm h0
theorem opens_l (hT : TyOk P Ty) {sz : Nat} {α : Type} {e : α → AV} {wf : α → Prop} (h : P.underlying t = some (.slice E)) (he : Enc Ty E sz e) (ho : Opens P E e wf) : Opens P t (eL sz e) (wfL wf) := by
  intro H enc w fuel cs x hx
  rcases DataW.trod_slice h hx with ⟨rfl, _⟩ | ⟨a, len, cap, elems, rest, n, _, rfl, _, _, hlc, hcm, hel, hat, _, _⟩
  · exact ⟨[], ⟨Nat.zero_le _, fun x hx => by cases hx⟩, (RelL.nil _).cons (.sl0 none 0 .no sz (Nat.zero_le _) (.inl rfl)), by simp [Value.oneCell']⟩
  · rw [cellsOf_sz hT he.ty he.pos] at hat
    have key : ∀ i, i < len → ∃ cs' y, w.cells? 0 (a.add (i * sz)) sz = some cs' ∧ wf y ∧ RelL (argG w) cs' (e y).cells ∧ ∀ v ∈ cs', v.oneCell' = true := fun i hi => by
      have h1 := hat i hi
      rw [List.getElem?_eq_getElem (by omega)] at h1
      obtain ⟨cs', h2, h3⟩ := Option.bind_eq_some_iff.1 h1
      obtain ⟨y, h4, h5, h6⟩ := ho enc w n cs' _ h3
      exact ⟨cs', y, h2, h4, h5, h6⟩
    -- the values, one by one
    have all : ∀ m, m ≤ len → ∃ ys : List α, ys.length = m ∧ (∀ y ∈ ys, wf y) ∧ ∀ (i : Nat) (y : α), ys[i]? = some y → ∃ cs', w.cells? 0 (a.add (i * sz)) sz = some cs' ∧ RelL (argG w) cs' (e y).cells ∧ ∀ v ∈ cs', v.oneCell' = true := by
      intro m
      induction m with
      | zero => exact fun _ => ⟨[], rfl, (fun y hy => by cases hy), fun i y hy => by simp at hy⟩
      | succ m ih =>
        intro hm
        obtain ⟨ys, h1, h2, h3⟩ := ih (by omega)
        obtain ⟨cs', y, k1, k2, k3, k4⟩ := key m (by omega)
        refine ⟨ys ++ [y], by simp [h1], fun z hz => ?_, fun i z hz => ?_⟩
        · rcases List.mem_append.1 hz with hz | hz
          · exact h2 z hz
          · simp at hz; subst hz; exact k2
        · rw [List.getElem?_append] at hz
          split at hz
          · exact h3 i z hz
          · rename_i hi
            have : i - ys.length = 0 := by
              rcases Nat.eq_zero_or_pos (i - ys.length) with h0 | h0
              · exact h0
              · rw [List.getElem?_eq_none (by simp; omega)] at hz; cases hz
            rw [this] at hz
            simp at hz
            subst hz
            rw [show i = m by omega]
            exact ⟨cs', k1, k3, k4⟩
    obtain ⟨ys, h1, h2, h3⟩ := all len (Nat.le_refl _)
    refine ⟨ys, ⟨by omega, h2⟩, (RelL.nil _).cons ?_, by simp [Value.oneCell']⟩
    have hz : ∀ z ∈ ys.map e, z.cells.length = sz := fun z hz => by obtain ⟨y, _, rfl⟩ := List.mem_map.1 hz; exact he.len y
    cases ys with
    | nil =>
      simp at h1
      subst h1
      exact .sl0 _ _ .no sz hcm (.inl rfl)
    | cons y0 ys0 =>
      have hsp : a.spot = none := by
        obtain ⟨cs', k1, _, _⟩ := h3 0 y0 rfl
        obtain ⟨_, k2, k3⟩ := World.cells?_some k1
        have := k3 0 (Nat.pos_of_ne_zero he.pos)
        rw [Nat.zero_mul] at this
        have e0 : (a.add 0).add 0 = a := by simp [Addr.add]
        rw [e0, List.getElem?_eq_getElem (by have := Nat.pos_of_ne_zero he.pos; omega)] at this
        exact World.cell?_spot this
      obtain ⟨b, o, sp⟩ := a
      simp only at hsp
      subst hsp
      have hl : ((y0 :: ys0).map e).length = len := by rw [List.length_map]; exact h1
      have hcell : ∀ (i : Nat) (z : AV) (j : Nat) (u : AV), ((y0 :: ys0).map e)[i]? = some z → z.cells[j]? = some u → ∃ v, w.cell? ⟨b, o + i * sz + j, none⟩ = some v ∧ v.oneCell' = true ∧ Rel (argG w) v u := by
        intro i z j u e1 e2
        rw [List.getElem?_map, Option.map_eq_some_iff] at e1
        obtain ⟨y, e1, rfl⟩ := e1
        obtain ⟨cs', k1, k2, k3⟩ := h3 i y e1
        obtain ⟨_, k4, k5⟩ := World.cells?_some k1
        obtain ⟨v, hv, hr⟩ := k2.get e2
        have hj : j < sz := by rw [← k4]; exact (List.getElem?_eq_some_iff.1 hv).1
        have := k5 j hj
        rw [Addr.add_lit, Addr.add_lit, hv] at this
        exact ⟨v, this, k3 v (List.mem_of_getElem? hv), hr⟩
      have key2 := Rel.sl (G := argG w) b o cap .no sz ((y0 :: ys0).map e) (fun i j => (w.cell? ⟨b, o + i * sz + j, none⟩).getD undef) (by rw [hl]; exact hlc) hcm hz (fun i z j u e1 e2 => by
        obtain ⟨v, k1, k2, k3⟩ := hcell i z j u e1 e2
        rw [k1]
        exact argG_fz k1 k2) (fun i z j u e1 e2 => by
        obtain ⟨v, k1, k2, k3⟩ := hcell i z j u e1 e2
        rw [k1]
        exact k3) trivial
      rw [hl] at key2
      exact key2
/-! ### structures -/
theorem rel_piece {G : Ghost} {cs : List Value} {o s : Nat} {a b : List AV} (h : RelL G ((cs.drop o).take s) a) (k : RelL G (cs.drop (o + s)) b) : RelL G (cs.drop o) (a ++ b) := by
  have := h.append k
  rw [← List.drop_drop, List.take_append_drop] at this
  exact this
theorem rel_end {G : Ghost} {cs : List Value} {n : Nat} (h : cs.length = n) : RelL G (cs.drop n) [] := by
  rw [List.drop_of_length_le (by omega)]; exact RelL.nil G
theorem one_piece {cs : List Value} {o s : Nat} (h : ∀ v ∈ (cs.drop o).take s, v.oneCell' = true) (k : ∀ v ∈ cs.drop (o + s), v.oneCell' = true) : ∀ v ∈ cs.drop o, v.oneCell' = true := by
  intro v hv
  rw [← List.take_append_drop s (cs.drop o), List.drop_drop] at hv
  rcases List.mem_append.1 hv with hv | hv
  · exact h v hv
  · exact k v hv
theorem one_end {cs : List Value} {n : Nat} (h : cs.length = n) : ∀ v ∈ cs.drop n, v.oneCell' = true := by
  rw [List.drop_of_length_le (by omega)]; intro v hv; cases hv
theorem opens_f {fs : Array Field} {α : Type} {e : α → AV} {wf : α → Prop} {H : Type} {enc : TypeId × Value → H} {w : World} {m : Nat} {cs : List Value} {xs : List (DataW H × List MemPlace)} (hx : ∀ (i : Nat) (f : Field), fs[i]? = some f → DataW.trod enc P w 0 (fun _ => true) true m f.type ((cs.drop f.offset).take (P.cellsOf f.type)) = xs[i]?) (hl : xs.length = fs.size)
    (i : Nat) {f : Field} {o s : Nat} (hf : fs[i]? = some f) (ht : Opens P f.type e wf) (ho : f.offset = o) (hs : P.cellsOf f.type = s) : ∃ y, wf y ∧ RelL (argG w) ((cs.drop o).take s) (e y).cells ∧ ∀ v ∈ (cs.drop o).take s, v.oneCell' = true := by
  subst ho; subst hs
  have h1 := hx i f hf
  have hi : i < fs.size := (Array.getElem?_eq_some_iff.1 hf).1
  rw [List.getElem?_eq_getElem (by omega)] at h1
  exact ht enc w m _ _ h1
/-- An argument, opened. -/
theorem Opens.arg {α : Type} {e : α → AV} {wf : α → Prop} (ho : Opens P t e wf) {sz : Nat} (he : Enc Ty t sz e) (hd : TdOk P t (tdOf Ty t)) {H : Type} {enc : TypeId × Value → H} {w : World} {r : Reach} {b0 : Nat} {v : Value} {d : DataW H} {ps : List MemPlace} (hval : Value.okWide P w r b0 t v) (h : DataW.Trod enc P w 0 (fun _ => true) true t v d ps) : ∃ y : α, wf y ∧ Rel (argG w) v (e y) := by
  obtain ⟨fuel, hf⟩ := h
  obtain ⟨y, h1, h2, _⟩ := ho enc w fuel _ _ hf
  refine ⟨y, h1, ?_⟩
  cases ha : isAggTD (tdOf Ty t) with
  | true =>
    have : ∃ cs, v = .agg cs := by
      cases htd : tdOf Ty t <;> rw [htd] at ha hd <;> simp [isAggTD] at ha
      · simp only [TdOk] at hd
        simp only [Value.okWide, hd] at hval
        obtain ⟨cs, h, _⟩ := hval; exact ⟨cs, h⟩
      · simp only [TdOk] at hd
        obtain ⟨fs, hd, _⟩ := hd
        simp only [Value.okWide, hd] at hval
        obtain ⟨cs, h, _⟩ := hval; exact ⟨cs, h⟩
    obtain ⟨cs, rfl⟩ := this
    rw [he.agg ha y]
    exact mkAgg (by simpa [Value.cells] using h2)
  | false =>
    rw [he.one ha y] at h2
    have hne : ∀ cs, v ≠ .agg cs := by
      rintro cs rfl
      have hl := h2.len
      simp only [Value.cells, List.length_singleton] at hl
      cases htd : tdOf Ty t <;> rw [htd] at ha hd <;> simp [isAggTD] at ha <;> simp only [TdOk] at hd
      case iface => obtain ⟨ms, hd⟩ := hd; simp [Value.okWide, hd, Cell.okWide, Cell.ok] at hval
      case func => obtain ⟨ps, rs, vv, hd⟩ := hd; simp [Value.okWide, hd, Cell.okWide, Cell.ok] at hval
      all_goals simp [Value.okWide, hd, Cell.okWide, Cell.ok] at hval
    have hc : v.cells.toList = [v] := by cases v <;> first | rfl | exact absurd rfl (hne _)
    rw [hc] at h2
    exact h2.at_ 0 v (e y) rfl rfl
end
end Go.Va
namespace Go.Va
open Go Go.RowKit
set_option linter.unusedVariables false
set_option linter.unusedSimpArgs false
mutual
/-- A value that speaks of no variable, and of no room. -/
def purA : AV → Bool
  | .sl .no _ es => purL es
  | .sl .full _ _ => false
  | .sl (.own _) _ _ => false
  | .agg cs => purL cs
  | .tup vs => purL vs
  | .fptr x _ => purL x
  | .iface _ v => purA v
  | .fn _ a b => purL a && purL b
  | .ref _ _ => false
  | .msl _ _ _ => false
  | .vec _ _ _ => false
  | .vc _ _ _ _ _ => false
  | .junk => true
  | .int _ _ => true
  | .bool _ => true
  | .str _ => true
  | .nilp => true
  | .nils => true
  | .nilm => true
  | .nilf => true
  | .nili => true
  | .spc _ => false
  | .mapr _ => false
  | .itc _ _ => false
  | .mpc _ _ => false
def purL : List AV → Bool
  | [] => true
  | a :: l => purA a && purL l
end
theorem purL_iff : ∀ {l : List AV}, purL l = true ↔ ∀ a ∈ l, purA a = true
  | [] => by simp [purL]
  | a :: l => by simp [purL, purL_iff (l := l)]
theorem purL_append (l m : List AV) : purL (l ++ m) = (purL l && purL m) := by
  induction l with
  | nil => simp [purL]
  | cons a l ih => simp [purL, ih, Bool.and_assoc]
theorem pur_cells {a x : AV} (h : purA a = true) (hx : x ∈ a.cells) : purA x = true := by
  cases a with
  | agg cs =>
    have h' : purL cs = true := by simpa [purA] using h
    exact purL_iff.1 h' x hx
  | _ => simp [AV.cells] at hx; subst hx; exact h
theorem Rel.pur {G G2 : Ghost} (hz : ∀ b o u, G.fz b o = some u → G2.fz b o = some u) {v : Value} {a : AV} (h : Rel G v a) (hp : purA a = true) : Rel G2 v a := by
  induction h with
  | junk v => exact .junk v
  | int k n => exact .int k n
  | bool b => exact .bool b
  | str s => exact .str s
  | nilp => exact .nilp
  | nils => exact .nils
  | nilm => exact .nilm
  | nilf => exact .nilf
  | nili => exact .nili
  | spc id b h => cases hp
  | mapr id b h => cases hp
  | agg vs aas hl _ ih => exact .agg vs aas hl fun i v a h1 h2 => ih i v a h1 h2 (purL_iff.1 (by simpa [purA] using hp) a (List.mem_of_getElem? h2))
  | tup vs aas hl _ ih => exact .tup vs aas hl fun i v a h1 h2 => ih i v a h1 h2 (purL_iff.1 (by simpa [purA] using hp) a (List.mem_of_getElem? h2))
  | sl b o c t sz es val hc hm hzz hf _ ht ih =>
    cases t with
    | no =>
      have hp' : ∀ e ∈ es, purA e = true := purL_iff.1 (by simpa [purA] using hp)
      exact .sl b o c .no sz es val hc hm hzz (fun i e j a h1 h2 => hz _ _ _ (hf i e j a h1 h2)) (fun i e j a h1 h2 => ih i e j a h1 h2 (pur_cells (hp' e (List.mem_of_getElem? h1)) (List.mem_of_getElem? h2))) trivial
    | _ => cases hp
  | sl0 A c t sz hm ht =>
    cases t with
    | no => exact .sl0 A c .no sz hm (.inl rfl)
    | _ => cases hp
  | fptr b o off x val hf _ ih =>
    have hp' : ∀ e ∈ x, purA e = true := purL_iff.1 (by simpa [purA] using hp)
    exact .fptr b o off x val (fun j a h1 => hz _ _ _ (hf j a h1)) fun j a h1 => ih j a h1 (hp' a (List.mem_of_getElem? h1))
  | ref id off b h => cases hp
  | msl id off len c b hc h => cases hp
  | vec id sz len c b h0 hc hm h hs => cases hp
  | vec0 A id sz => cases hp
  | vc id sz off len c b hc hm h hs => cases hp
  | iface t v a _ ih => exact .iface t v a (ih (by simpa [purA] using hp))
  | fn f fs cs fa ca hl hk _ _ ih1 ih2 =>
    simp only [purA, Bool.and_eq_true] at hp
    exact .fn f fs cs fa ca hl hk (fun i v a h1 h2 => ih1 i v a h1 h2 (purL_iff.1 hp.1 a (List.mem_of_getElem? h2))) (fun i v a h1 h2 => ih2 i v a h1 h2 (purL_iff.1 hp.2 a (List.mem_of_getElem? h2)))
theorem pur_eL {α : Type} {e : α → AV} {sz : Nat} (h : ∀ x, purA (e x) = true) (l : List α) : purA (eL sz e l) = true := by
  simp only [eL, purA]
  exact purL_iff.2 fun a ha => by obtain ⟨x, _, rfl⟩ := List.mem_map.1 ha; exact h x
/-- What an argument is seen as. -/
inductive BArg (σ : St) : AV → AV → Prop where
  | wk {a b : AV} (h : Wk a b) (hp : purA b = true) : BArg σ a b
  | vec {id sz n : Nat} {es : List AV} (hc : σ.objs[id]? = some (flat es)) (hsp : spcl (flat es) = false) (hn : n = es.length) (hz : ∀ e ∈ es, e.cells.length = sz) (hs : sz ≠ 0) (hp : purL es = true) : BArg σ (.vec id sz n) (.sl .no sz es)
  | vc {id sz off n cap : Nat} {cells es : List AV} (hc : σ.objs[id]? = some cells) (hsp : spcl cells = false) (hle : off + n * sz ≤ cells.length) (hcs : (cells.drop off).take (n * sz) = flat es) (hn : n = es.length) (hz : ∀ e ∈ es, e.cells.length = sz) (hs : sz ≠ 0) (hp : purL es = true) : BArg σ (.vc id sz off n cap) (.sl .no sz es)
inductive BArgs (σ : St) : List AV → List AV → Prop where
  | nil : BArgs σ [] []
  | cons {a b : AV} {aas bs : List AV} (h : BArg σ a b) (t : BArgs σ aas bs) : BArgs σ (a :: aas) (b :: bs)
theorem BArg.rel {σ : St} {w0 : World} {G : Ghost} {w : World} (hI : Inv w0 G w σ) {a b : AV} (h : BArg σ a b) {v : Value} (hr : Rel G v a) : Rel (argG w) v b := by
  have hz : ∀ b o u, G.fz b o = some u → (argG w).fz b o = some u := fun b o u hf => argG_fz (hI.fz b o u hf).1 (hI.fz b o u hf).2
  cases h with
  | wk h hp => exact (h G v hr).pur hz hp
  | @vec id sz n es hc hsp hn hzz hs hp =>
    have hfl := flat_length hzz
    cases hr with
    | vec0 A _ _ =>
      have hnil : es = [] := List.eq_nil_of_length_eq_zero hn.symm
      subst hnil
      exact .sl0 A 0 .no sz (Nat.zero_le _) (.inl rfl)
    | vec _ _ _ c b h0 hc' hm hl hbs =>
      have hne : flat es ≠ [] := fun he => by
        have h2 : (flat es).length = 0 := by rw [he]; rfl
        rw [hfl] at h2
        rcases Nat.mul_eq_zero.1 h2 with h | h
        · omega
        · exact hs h
      obtain ⟨b', T, vs, k1, k2, k3, k4, k5, k6⟩ := hI.loc _ _ hc hne hsp
      rw [hl] at k1
      injection k1 with k1
      subst k1
      have hrel : RelL (argG w) (vs.toList.take (flat es).length) (flat es) := ⟨k4.rel.len, fun i u a h1 h2 => (k4.rel.at_ i u a h1 h2).pur hz (by
        obtain ⟨e, he, ha⟩ := List.mem_flatMap.1 (show a ∈ es.flatMap AV.cells from by have := List.mem_of_getElem? h2; simpa [flat] using this)
        exact pur_cells (purL_iff.1 hp e he) ha)⟩
      rw [hn]
      refine Rel.mkSl (b := b) (o := 0) (t := .no) (by omega) hm hzz hrel (fun j u hu => ?_) trivial
      rw [Nat.zero_add]
      rw [List.getElem?_take] at hu
      split at hu
      · refine argG_fz ?_ (k5 u (List.mem_iff_getElem?.2 ⟨j, hu⟩))
        rw [cell_of_row _ _ _ vs T (0, 0) k3]
        simpa using hu
      · cases hu
  | @vc id sz off n cap cells es hc hsp hle hcs hn hzz hs hp =>
    have hfl := flat_length hzz
    cases hr with
    | vc _ _ _ _ _ b hc' hm hl hbs =>
      by_cases hne : cells = []
      · subst hne
        have h0 : n * sz = 0 := by rw [List.length_nil] at hle; omega
        have hn0 : n = 0 := by
          rcases Nat.mul_eq_zero.1 h0 with h | h
          · exact h
          · exact absurd h hs
        subst hn0
        have hnil : es = [] := List.eq_nil_of_length_eq_zero hn.symm
        subst hnil
        exact .sl0 _ cap .no sz hm (.inl rfl)
      · obtain ⟨b', T, vs, k1, k2, k3, k4, k5, k6⟩ := hI.loc _ _ hc hne hsp
        rw [hl] at k1
        injection k1 with k1
        subst k1
        have hvs : cells.length ≤ vs.size := k4.le
        have hcl : (flat es).length = n * sz := by rw [hfl, ← hn]
        have hrel : RelL (argG w) ((vs.toList.drop off).take (n * sz)) (flat es) := ⟨by rw [hcl, List.length_take, List.length_drop, Array.length_toList]; omega, fun i u a h1 h2 => by
          have hi : i < n * sz := by rw [← hcl]; exact (List.getElem?_eq_some_iff.1 h2).1
          rw [List.getElem?_take, if_pos hi, List.getElem?_drop] at h1
          have h3 := h2
          rw [← hcs, List.getElem?_take, if_pos hi, List.getElem?_drop] at h3
          refine (k4.rel.at_ (off + i) u a (by rw [List.getElem?_take, if_pos (by omega)]; exact h1) h3).pur hz ?_
          obtain ⟨e, he, ha⟩ := List.mem_flatMap.1 (show a ∈ es.flatMap AV.cells from by have := List.mem_of_getElem? h2; simpa [flat] using this)
          exact pur_cells (purL_iff.1 hp e he) ha⟩
        rw [hn] at hrel hc' ⊢
        refine Rel.mkSl (b := b) (o := off) (t := .no) hc' hm hzz hrel (fun j u hu => ?_) trivial
        rw [List.getElem?_take] at hu
        split at hu
        · rw [List.getElem?_drop] at hu
          refine argG_fz ?_ (k5 u (List.mem_iff_getElem?.2 ⟨off + j, hu⟩))
          rw [cell_of_row _ _ _ vs T (0, 0) k3]
          simpa using hu
        · cases hu
theorem BArgs.rel {σ : St} {w0 : World} {G : Ghost} {w : World} (hI : Inv w0 G w σ) : ∀ {aas bs : List AV} (_ : BArgs σ aas bs) {vs : List Value}, RelL G vs aas → RelL (argG w) vs bs
  | _, _, .nil, vs, h => ⟨h.len, fun i v a _ h2 => by simp at h2⟩
  | _, _, .cons (a := a) h t, vs, hr => by
    cases vs with
    | nil => have := hr.len; simp at this
    | cons v vs =>
      exact RelL.cons (h.rel hI (hr.at_ 0 v a rfl rfl)) (t.rel hI ⟨by simpa using hr.len, fun i u b e1 e2 => hr.at_ (i + 1) u b (by simpa using e1) (by simpa using e2)⟩)
/-- A value that speaks of no memory. -/
def sclA : AV → Bool
  | .int _ _ => true
  | .bool _ => true
  | .str _ => true
  | .tup [] => true
  | .tup [.int _ _, .bool _] => true
  | .tup [.int _ _, .int _ _] => true
  | _ => false
section
variable {P : Program} {Ty : TypeId → Option TI} {σ : St} {fr : Nat → AV}
/-- A variable is seen as less. -/
theorem Inv.wko {w0 : World} {G : Ghost} {w : World} {σ : St} (h : Inv w0 G w σ) {id : Nat} {c c' : List AV} (hc : σ.objs[id]? = some c) (hsp : spcl c = false) (hw : WkL c c') : Inv w0 G w ⟨σ.objs.set id c', σ.opn, σ.gl⟩ := by
  have hlen : ∀ {a b : List AV}, WkL a b → a.length = b.length := by
    intro a b h
    induction h with
    | nil => rfl
    | cons _ _ ih => simp [ih]
  have hl := hlen hw
  have hlt := (List.getElem?_eq_some_iff.1 hc).1
  have key : ∀ (i : Nat) (d : List AV), (σ.objs.set id c')[i]? = some d → d ≠ [] → ∃ d', σ.objs[i]? = some d' ∧ d' ≠ [] ∧ (spcl d = false → spcl d' = false) ∧ WkL d' d := by
    intro i d hd hn
    rw [List.getElem?_set] at hd
    split at hd
    · rename_i he; subst he
      have hd' : c' = d := by
        first
          | exact Option.some.inj hd
          | (rw [if_pos hlt] at hd; exact Option.some.inj hd)
      subst hd'
      exact ⟨c, hc, fun h => by rw [h] at hl; exact hn (List.eq_nil_of_length_eq_zero hl.symm), fun _ => hsp, hw⟩
    · exact ⟨d, hd, hn, fun h => h, .refl d⟩
  refine ⟨h.below, h.fz, fun i d hd hn hs => ?_, fun i b o d hl' hd hn => ?_, h.loclt, fun i b hl' => by simpa using h.locdom i b hl', fun i j b d e hi hj hd he hn hn' => ?_, fun t b top en ho ht => ?_, h.tokdom, h.tokinj, h.nt, h.lit, h.gl, h.sp_to (.refl G) (fun _ _ _ h => h) (fun i a h1 h2 => by
      simp only at h1
      rw [List.getElem?_set] at h1
      split at h1
      · have e : c' = [a] := by
          first
            | exact Option.some.inj h1
            | (rw [if_pos (by omega)] at h1; exact Option.some.inj h1)
        obtain ⟨b, T, vs, e1, e2, e3, e4, e5, e6⟩ := h.loc id c hc (fun h0 => by rw [h0] at hl; rw [e] at hl; cases hl) hsp
        have hx := rell_nsp (hw.rel e4.rel)
        rw [e] at hx
        simp only [spcl] at hx
        rw [hx] at h2; cases h2
      · exact h1)⟩
  · obtain ⟨d', a1, a2, aq, a3⟩ := key i d hd hn
    obtain ⟨b, T, vs, e1, e2, e3, e4, e5, e6⟩ := h.loc i d' a1 a2 (aq hs)
    have hdl := hlen a3
    exact ⟨b, T, vs, e1, e2, e3, ⟨by rw [← hdl]; exact e4.le, by rw [← hdl]; exact a3.rel e4.rel⟩, e5, e6⟩
  · obtain ⟨d', a1, a2, _⟩ := key i d hd hn
    exact h.locfz i b o d' hl' a1 a2
  · obtain ⟨d', a1, a2, _⟩ := key i d hd hn
    obtain ⟨e', b1, b2, _⟩ := key j e he hn'
    exact h.locinj i j b d' e' hi hj a1 b1 a2 b2
  · obtain ⟨e1, e2, e3, e4⟩ := h.tok t b top en ho ht
    refine ⟨e1, e2, e3, fun i hi => ?_⟩
    have h0 := e4 i hi
    rw [List.getElem?_set]
    split
    · rename_i he; subst he
      rw [hc] at h0; cases h0
      have : c' = [] := List.eq_nil_of_length_eq_zero hl.symm
      subst this
      first | rfl | rw [if_pos hlt]
    · exact h0
theorem AWP.wko {n : Nat} {c : Code} {Q : AExit → (Nat → AV) → St → Prop} {l : List (Nat × AV)} {σ0 : St} {O : List (Nat × List AV)} {A : List Nat} (hH : Holds σ0 O A σ) (k : Nat) {id : Nat} {c0 c1 : List AV} (hk : O[k]? = some (id, c0)) (hw : WkL c0 c1) (h : ∀ τ, Holds σ0 (O.set k (id, c1)) A τ → AWP P n c Q (Va.fm l) τ) (hsp : spcl c0 = false := by first | rfl | exact spcl_cL (by assumption) _) : AWP P n c Q (Va.fm l) σ := fun w0 G a w hS =>
  h _ (hH.put k hk c1) w0 G a w ⟨hS.inv.wko (hH.at_ k hk) hsp hw, hS.frm, hS.size, hS.defers⟩
end
end Go.Va
namespace Go.Va
open Go Go.RowKit
section
variable {P : Program} {Ty : TypeId → Option TI} {σ σ' : St} {fr : Nat → AV}
theorem OpS.of_run {o : Oper} {a : AV} (h : ∀ w0 G (ρ : Operand → Value) w, Inv w0 G w σ → (∀ x ∈ o.op.operands, Rel G (ρ x) (aeval fr x)) → ∃ v w' G', (execOp ρ o).run P w = .ok (.value v) w' ∧ G.Le G' ∧ Inv w0 G' w' σ' ∧ Rel G' v a) : OpS P o fr σ (fun a' τ => a' = a ∧ τ = σ') := by
  intro w0 G act w Q K' hI hr hK
  obtain ⟨v, w', G', h1, h2, h3, h4⟩ := h w0 G act.eval w hI hr
  unfold Oper.wp
  rw [h1]
  exact hK v a σ' w' G' ⟨rfl, rfl⟩ h2 h3 h4
/-- Things of a few simple fields, side by side. -/
def eqCells (P : Program) : List Field → List AV → List AV → Option Bool
  | [], _, _ => some true
  | f :: fs, cs, ds => if f.name = "_" then none else match cs[f.offset]?, ds[f.offset]?, P.underlying f.type with
    | some (.int k a), some (.int k' b), some (.int _) => if k = k' then (if a == b then eqCells P fs cs ds else some false) else none
    | some (.str a), some (.str b), some .string => if decide (a = b) then eqCells P fs cs ds else some false
    | some (.bool a), some (.bool b), some .bool => if a == b then eqCells P fs cs ds else some false
    | _, _, _ => none
variable {d : Option Tmp} {ty : TypeId} {pos : String} {af : Array Edge} {g : Option (Nat × Bool)} {ox oy oi : Operand} {T T' E U : TypeId}
end
end Go.Va
namespace Go.Va
open Go Go.RowKit
set_option linter.unusedVariables false
set_option linter.unusedSimpArgs false
section
variable {P : Program} {Ty : TypeId → Option TI} {σ σ0 : St} {O : List (Nat × List AV)} {A : List Nat} {fr : Nat → AV} {d : Option Tmp} {ty : TypeId} {pos : String} {af : Array Edge} {g : Option (Nat × Bool)} {ox oy oi : Operand} {T T' E U : TypeId} {α : Type} {e : α → AV} {sz id off cap : Nat}
/-- Things that stand in a variable from a place on, and how many have room. -/
structure PartV (e : α → AV) (sz : Nat) (c : List AV) (off cap : Nat) (l : List α) : Prop where
  le : off + l.length * sz ≤ c.length
  at_ : (c.drop off).take (l.length * sz) = cL e l
  room : l.length ≤ cap
  nsp : spcl c = false
def vco (sz off cap l : Nat) : Nat := if cap = l then off else off + l * sz
theorem PartV.all (he : Enc Ty E sz e) {l : List α} (h : l.length ≤ cap) : PartV e sz (cL e l) 0 cap l :=
  have hl := cL_length he.len l
  ⟨by rw [hl]; omega, by rw [List.drop_zero, List.take_of_length_le (by rw [hl]; exact Nat.le_refl _)], h, spcl_cL he l⟩
theorem PartV.cutN (he : Enc Ty E sz e) {c : List AV} {l : List α} (hp : PartV e sz c off cap l) {a b : Nat} (h1 : a ≤ b) (h2 : b ≤ l.length) : PartV e sz c (vco sz off cap a) (cap - a) ((l.take b).drop a) := by
  have hlen : ((l.take b).drop a).length = b - a := by rw [List.length_drop, List.length_take]; omega
  have hroom := hp.room
  have hle := hp.le
  have hab : (b - a) * sz = b * sz - a * sz := Nat.sub_mul _ _ _
  have hb : b * sz ≤ l.length * sz := Nat.mul_le_mul_right _ h2
  have ha : a * sz ≤ b * sz := Nat.mul_le_mul_right _ h1
  unfold vco
  by_cases hc : cap = a
  · rw [if_pos hc]
    have h0 : b - a = 0 := by omega
    refine ⟨by rw [hlen, h0]; omega, ?_, by omega, hp.nsp⟩
    rw [hlen, h0, Nat.zero_mul, List.take_zero, List.eq_nil_of_length_eq_zero (hlen.trans h0)]
    rfl
  · rw [if_neg hc]
    refine ⟨by rw [hlen, hab]; omega, ?_, by omega, hp.nsp⟩
    rw [hlen, ← cL_drop he.len, ← cL_take he.len, ← hp.at_, List.take_take, Nat.min_eq_left hb, List.drop_take, List.drop_drop, hab]
theorem PartV.cut (he : Enc Ty E sz e) {c : List AV} {l z : List α} (hp : PartV e sz c off cap l) {lo hi : Int} (h : cutO l lo hi = some z) : PartV e sz c (vco sz off cap lo.toNat) (cap - lo.toNat) z := by
  unfold cutO at h
  split at h <;> cases h
  exact hp.cutN he (by omega) (by omega)
theorem PartV.cutTo (he : Enc Ty E sz e) {c : List AV} {l z : List α} (hp : PartV e sz c off cap l) {hi : Int} (h : cutTo l hi = some z) : PartV e sz c (vco sz off cap 0) (cap - 0) z := by
  unfold Va.cutTo at h
  split at h <;> cases h
  exact hp.cutN he (a := 0) (by omega) (by omega)
theorem PartV.cutFrom (he : Enc Ty E sz e) {c : List AV} {l z : List α} (hp : PartV e sz c off cap l) {lo : Int} (h : cutFrom l lo = some z) : PartV e sz c (vco sz off cap lo.toNat) (cap - lo.toNat) z := by
  unfold Va.cutFrom at h
  split at h <;> cases h
  have := hp.cutN he (a := lo.toNat) (b := l.length) (by omega) (Nat.le_refl _)
  rwa [List.take_length] at this
end
end Go.Va
namespace Go.Va
open Go Go.RowKit
/-! ### as many noughts, appended -/
section
variable {P : Program} {Ty : TypeId → Option TI} {σ σ0 : St} {O : List (Nat × List AV)} {A : List Nat} {fr : Nat → AV} {d : Option Tmp} {ty : TypeId} {pos : String} {af : Array Edge} {g : Option (Nat × Bool)} {ox oy : Operand} {T E U S : TypeId}
end
end Go.Va
namespace Go.Va
open Go Go.RowKit
/-! ### append to nothing, or to what is full: a slice that never changes -/
section
variable {P : Program} {Ty : TypeId → Option TI}
variable {σ σ0 : St} {O : List (Nat × List AV)} {A : List Nat} {fr : Nat → AV} {d : Option Tmp} {ty : TypeId} {pos : String} {af : Array Edge} {g : Option (Nat × Bool)} {ox oy : Operand} {T E U S : TypeId} {α : Type} {e : α → AV} {sz id off cap : Nat}
end
end Go.Va
namespace Go.Va
open Go Go.RowKit
/-! ### a slice that never changes, cut with three bounds -/
def cut3 {α : Type} (l : List α) (k h m : Int) : Option (List α) := if 0 ≤ k ∧ k ≤ h ∧ h ≤ m ∧ m ≤ l.length then some ((l.take h.toNat).drop k.toNat) else none
section
variable {P : Program} {Ty : TypeId → Option TI} {σ : St} {fr : Nat → AV} {d : Option Tmp} {ty : TypeId} {pos : String} {af : Array Edge} {g : Option (Nat × Bool)} {ox oy : Operand} {T E : TypeId} {α : Type} {e : α → AV} {sz : Nat} {k : Tok}
end
end Go.Va
namespace Go.Va
open Go Go.RowKit
/-! ### a nil field of a variable as one that may be appended to -/
/-- Cells, of which some nil slices are seen as ones with a token. -/
inductive NkL (t : Nat) : List AV → List AV → Prop where
  | nil : NkL t [] []
  | same {a : AV} {l m : List AV} (h : NkL t l m) : NkL t (a :: l) (a :: m)
  | tok {sz : Nat} {l m : List AV} (h : NkL t l m) : NkL t (.nils :: l) (.sl (.own t) sz [] :: m)
theorem NkL.len {t : Nat} {l m : List AV} (h : NkL t l m) : l.length = m.length := by
  induction h with
  | nil => rfl
  | same _ ih => simp [ih]
  | tok _ ih => simp [ih]
theorem NkL.rel {t : Nat} {l m : List AV} (h : NkL t l m) {G : Ghost} (ht : t < G.nt) : ∀ {vs : List Value}, RelL G vs l → RelL G vs m := by
  induction h with
  | nil => exact fun h => h
  | same _ ih =>
    intro vs hr
    cases vs with
    | nil => have := hr.len; simp at this
    | cons v vs => exact RelL.cons (hr.at_ 0 v _ rfl rfl) (ih ⟨by simpa using hr.len, fun i u a e1 e2 => hr.at_ (i + 1) u a (by simpa using e1) (by simpa using e2)⟩)
  | tok _ ih =>
    intro vs hr
    cases vs with
    | nil => have := hr.len; simp at this
    | cons v vs =>
      have h1 := hr.at_ 0 v _ rfl rfl
      cases h1
      exact RelL.cons (.sl0 none 0 _ _ (Nat.zero_le _) (.inr ⟨rfl, ht⟩)) (ih ⟨by simpa using hr.len, fun i u a e1 e2 => hr.at_ (i + 1) u a (by simpa using e1) (by simpa using e2)⟩)
end Go.Va
namespace Go.Va
open Go Go.RowKit
set_option linter.unusedVariables false
set_option linter.unusedSimpArgs false
section
variable {P : Program} {Ty : TypeId → Option TI} {σ : St} {fr : Nat → AV} {d : Option Tmp} {ty : TypeId} {pos : String} {af : Array Edge} {g : Option (Nat × Bool)} {ox oy : Operand} {T T' E : TypeId} {k : Tok} {sz : Nat} {es : List AV}
end
end Go.Va
namespace Go.Va
open Go Go.RowKit
set_option linter.unusedVariables false
set_option linter.unusedSimpArgs false

/-- A new one. -/
theorem Inv.alloc_sp {w0 : World} {G : Ghost} {w : World} {σ : St} (h : Inv w0 G w σ) {o : Obj} {a : AV} (ha : a.isSp = true) (hs : SpO G o a) :
    G.Le (G.addLoc σ.objs.length w.heap.size 0) ∧ Inv w0 (G.addLoc σ.objs.length w.heap.size 0) (w.alloc o) ⟨σ.objs ++ [[a]], σ.opn, σ.gl⟩ := by
  have hnone : ∀ i b, G.loc i = some b → i ≠ σ.objs.length := fun i b hi he => by have := h.locdom i b hi; omega
  have hle : G.Le (G.addLoc σ.objs.length w.heap.size 0) := ⟨fun _ _ _ h => h, fun i b hi => by simp [Ghost.addLoc, hnone i b hi, hi], fun _ _ h => h, Nat.le_refl _, fun _ h => h, fun i b hi => by simp [Ghost.addLoc, hnone i b hi]⟩
  have hsz := h.below.size
  have hat : ∀ (id : Nat) (c : List AV), (σ.objs ++ [[a]])[id]? = some c → (id < σ.objs.length ∧ σ.objs[id]? = some c) ∨ (id = σ.objs.length ∧ c = [a]) := by
    intro id c hc
    by_cases hid : id < σ.objs.length
    · rw [List.getElem?_append_left hid] at hc; exact .inl ⟨hid, hc⟩
    · rw [List.getElem?_append_right (by omega)] at hc
      cases hz : id - σ.objs.length with
      | zero => rw [hz] at hc; simp at hc; exact .inr ⟨by omega, hc.symm⟩
      | succ m => rw [hz] at hc; simp at hc
  refine ⟨hle, ⟨h.below.alloc hsz _, fun b o v hf => ?_, fun id c hc hne hn => ?_, fun id b o c hl hc hne => ?_, fun id b hl => ?_, fun id b hl => ?_, fun i j b c d hi hj hc hd hn hn' => ?_, fun t b top en ho ht => ?_, fun t x ht => h.tokdom t x ht, fun t t' x x' a1 a2 a3 a4 => h.tokinj t t' x x' a1 a2 a3 a4, h.nt, fun b hb => ?_, h.gl, fun id x hc hx => ?_⟩⟩
  · exact ⟨(alloc_cell_lt _ (h.fzlt hf)).trans (h.fz b o v hf).1, (h.fz b o v hf).2⟩
  · rcases hat id c hc with ⟨hid, hc⟩ | ⟨rfl, rfl⟩
    · obtain ⟨b, T', vs', e1, e2, e3, e4, e5, e6⟩ := h.loc id c hc hne hn
      exact ⟨b, T', vs', hle.loc _ _ e1, e2, (alloc_heap_lt _ (h.loclt _ _ e1)).trans e3, e4.mono hle, e5, by rw [hle.bsz _ _ e1]; exact e6⟩
    · simp only [spcl] at hn; rw [ha] at hn; cases hn
  · simp only [Ghost.addLoc] at hl
    split at hl
    · injection hl with hl; subst hl
      cases hz : (G.addLoc σ.objs.length w.heap.size 0).fz w.heap.size o with
      | none => rfl
      | some v => exact absurd (h.fzlt (b := w.heap.size) (o := o) hz) (by omega)
    · rw [List.getElem?_append_left (h.locdom id b hl)] at hc
      exact h.locfz id b o c hl hc hne
  · simp only [Ghost.addLoc] at hl
    split at hl
    · injection hl with hl; simp; omega
    · have := h.loclt id b hl; simp; omega
  · simp only [Ghost.addLoc] at hl
    split at hl
    · simp; omega
    · have := h.locdom id b hl; simp; omega
  · simp only [Ghost.addLoc] at hi hj
    split at hi <;> split at hj
    · omega
    · injection hi with hi; subst hi; exact absurd (h.loclt _ _ hj) (by omega)
    · injection hj with hj; subst hj; exact absurd (h.loclt _ _ hi) (by omega)
    · rw [List.getElem?_append_left (h.locdom i b hi)] at hc
      rw [List.getElem?_append_left (h.locdom j b hj)] at hd
      exact h.locinj i j b c d hi hj hc hd hn hn'
  · obtain ⟨e1, ⟨cs, T', e2, e3⟩, e4, e5⟩ := h.tok t b top en ho ht
    have hb : b < w.heap.size := (Array.getElem?_eq_some_iff.1 e2).1
    refine ⟨e1, ⟨cs, T', (alloc_heap_lt _ hb).trans e2, e3⟩, e4, fun id hl => ?_⟩
    simp only [Ghost.addLoc] at hl
    split at hl
    · injection hl with hl; omega
    · rw [List.getElem?_append_left (h.locdom id b hl)]
      exact e5 id hl
  · obtain ⟨k1, k2, k3, k4⟩ := h.lit b hb
    refine ⟨k1, by simp; omega, fun id hl => ?_, k4⟩
    simp only [Ghost.addLoc] at hl
    split at hl
    · injection hl with hl; omega
    · exact k3 id hl
  · rcases hat id [x] hc with ⟨hid, hc⟩ | ⟨rfl, e⟩
    · obtain ⟨b, o, e1, e2, e3, e4⟩ := h.sp id x hc hx
      exact ⟨b, o, hle.loc _ _ e1, e2, heap_alloc_keep _ e3, e4.mono hle⟩
    · obtain rfl := (List.cons.inj e).1
      exact ⟨w.heap.size, o, by simp [Ghost.addLoc], hsz, heap_alloc_new w _, hs.mono hle⟩
/-- What one holds is turned. -/
theorem Inv.set_sp {w0 : World} {G : Ghost} {w : World} {σ : St} (h : Inv w0 G w σ) {id b : Nat} {a a' : AV} {o' : Obj} (hc : σ.objs[id]? = some [a]) (ha : a.isSp = true) (hl : G.loc id = some b) (ha' : a'.isSp = true) (hs : SpO G o' a') :
    Inv w0 G { w with heap := w.heap.setIfInBounds b o' } ⟨σ.objs.set id [a'], σ.opn, σ.gl⟩ := by
  obtain ⟨b1, o, k1, k2, k3, k4⟩ := h.sp id a hc ha
  rw [hl] at k1
  injection k1 with k1
  subst k1
  have hlt := (Array.getElem?_eq_some_iff.1 k3).1
  have hidlt := h.locdom id b hl
  have hoth : ∀ k, k ≠ b → (w.heap.setIfInBounds b o')[k]? = w.heap[k]? := fun k hk => Array.getElem?_setIfInBounds_ne (Ne.symm hk)
  have hne : ∀ {k : Nat} {cs T f}, w.heap[k]? = some (.cells cs T f) → k ≠ b := fun {k cs T f} e he => by subst he; rw [k3] at e; injection e with e; exact k4.nc _ _ _ e
  have hbel : Below w0.heap.size w { w with heap := w.heap.setIfInBounds b o' } := ⟨rfl, rfl, rfl, by simp, fun k hk => hoth k (by omega)⟩
  have hcell : ∀ k x v, w.cell? ⟨k, x, none⟩ = some v → World.cell? { w with heap := w.heap.setIfInBounds b o' } ⟨k, x, none⟩ = some v := fun k x v hv => by
    have hkb : k ≠ b := fun he => by
      subst he
      simp only [World.cell?, k3] at hv
      obtain ⟨c, e, lo, hi⟩ | _ := o
      · exact k4.nc _ _ _ rfl
      all_goals simp at hv
    simp only [World.cell?] at hv ⊢
    rw [hoth k hkb]
    exact hv
  have hat : ∀ (i : Nat) (c : List AV), (σ.objs.set id [a'])[i]? = some c → (i = id ∧ c = [a']) ∨ (i ≠ id ∧ σ.objs[i]? = some c) := by
    intro i c hc'
    by_cases he : id = i
    · subst he
      rw [List.getElem?_set_self hidlt] at hc'
      exact .inl ⟨rfl, (Option.some.inj hc').symm⟩
    · rw [List.getElem?_set_ne he] at hc'
      exact .inr ⟨Ne.symm he, hc'⟩
  have hsome : ∀ (i : Nat) (c : List AV), (σ.objs.set id [a'])[i]? = some c → c ≠ [] → ∃ c', σ.objs[i]? = some c' ∧ c' ≠ [] := by
    intro i c hc' hn
    rcases hat i c hc' with ⟨rfl, rfl⟩ | ⟨_, e⟩
    · exact ⟨[a], hc, by simp⟩
    · exact ⟨c, e, hn⟩
  refine ⟨h.below.trans hbel, fun x o v hf => ⟨hcell _ _ _ (h.fz x o v hf).1, (h.fz x o v hf).2⟩, fun i c hc' hn hsp => ?_, fun i x o c hl' hc' hn => ?_, fun i x hl' => by simpa using h.loclt i x hl', fun i x hl' => by simpa using h.locdom i x hl', fun i j x c d hi hj hc' hd hn hn' => ?_, fun t x top en ho ht => ?_, h.tokdom, h.tokinj, h.nt, fun x hx => ?_, h.gl, fun i x hc' hx => ?_⟩
  · rcases hat i c hc' with ⟨rfl, rfl⟩ | ⟨_, e⟩
    · simp only [spcl] at hsp; rw [ha'] at hsp; cases hsp
    · obtain ⟨b', T, vs, e1, e2, e3, e4, e5, e6⟩ := h.loc i c e hn hsp
      exact ⟨b', T, vs, e1, e2, (hoth b' (hne e3)).trans e3, e4, e5, e6⟩
  · obtain ⟨c', e1, e2⟩ := hsome i c hc' hn
    exact h.locfz i x o c' hl' e1 e2
  · obtain ⟨c', e1, e2⟩ := hsome i c hc' hn
    obtain ⟨d', f1, f2⟩ := hsome j d hd hn'
    exact h.locinj i j x c' d' hi hj e1 f1 e2 f2
  · obtain ⟨e1, ⟨cs, T, e2, e3⟩, e4, e5⟩ := h.tok t x top en ho ht
    refine ⟨e1, ⟨cs, T, (hoth x (hne e2)).trans e2, e3⟩, e4, fun i hi => ?_⟩
    have h0 := e5 i hi
    rw [List.getElem?_set]
    split
    · rename_i he; subst he; rw [hc] at h0; cases h0
    · exact h0
  · obtain ⟨e1, e2, e3, e4⟩ := h.lit x hx
    exact ⟨e1, by simpa using e2, e3, e4⟩
  · rcases hat i [x] hc' with ⟨rfl, e⟩ | ⟨hi, e⟩
    · obtain rfl := (List.cons.inj e).1
      exact ⟨b, o', hl, k2, by simp [hlt], hs⟩
    · obtain ⟨b', o2, e1, e2, e3, e4⟩ := h.sp i x e hx
      have hb' : b' ≠ b := fun he => hi (h.locinj i id b [x] [a] (he ▸ e1) hl e hc (by simp) (by simp))
      exact ⟨b', o2, e1, e2, (hoth b' hb').trans e3, e4⟩
/-- A piece that is a scope. -/
theorem awp_scope {P : Program} {n : Nat} {c : Code} {Q : AExit → (Nat → AV) → St → Prop} {fr : Nat → AV} {σ : St} (h : AWP P n c Q fr σ) : AWP P n (.scope c) Q fr σ := fun w0 G a w hS => by
  refine wp_scope_straight (wp_mono (h w0 G a w hS) ?_)
  rintro e a' w' ⟨ae, fr', σ', G', h1, h2⟩
  cases e <;> first | exact ⟨ae, fr', σ', G', h1, h2⟩ | exact absurd h1 (by cases ae <;> simp [ExitRel])
section
variable {P : Program} {Ty : TypeId → Option TI} {σ σ0 : St} {O : List (Nat × List AV)} {A : List Nat} {fr : Nat → AV} {d : Option Tmp} {ty : TypeId} {pos : String} {af : Array Edge} {g : Option (Nat × Bool)} {ox oy : Operand} {T : TypeId}
theorem run_next_at (w : World) (s : ByteArray) (pos b : Nat) (ty : TypeId) (hb : w.heap[b]? = some (.stringIter s pos)) (h : pos < s.size) (ha : (s[pos]'h).toNat < 128) :
    (Instr.next (.pointer (some ⟨b, 0, none⟩)) true ty).run P w = .ok (.tuple #[.bool true, .int .i64 pos, .int .i32 (s[pos]'h).toNat]) { w with heap := w.heap.setIfInBounds b (.stringIter s (pos + 1)) } := by
  simp [Instr.next, getObj, setObj, Sem.run, hb, Result.andThen, h, decode_ascii s pos h ha, goInt]
theorem run_next_done (w : World) (s : ByteArray) (pos b : Nat) (ty : TypeId) (hb : w.heap[b]? = some (.stringIter s pos)) (h : ¬ pos < s.size) :
    (Instr.next (.pointer (some ⟨b, 0, none⟩)) true ty).run P w = .ok (.tuple #[.bool false]) w := by
  simp [Instr.next, getObj, Sem.run, hb, h]
theorem WkL.append : ∀ {a b c d : List AV}, WkL a b → WkL c d → WkL (a ++ c) (b ++ d)
  | _, _, _, _, .nil, h => h
  | _, _, _, _, .cons h t, k => .cons h (t.append k)
theorem o_cw (hT : TyOk P Ty) (mu : Bool) {o : Oper} {a b : AV} (hc : callOf o = none) (h : ∀ τ, aop Ty mu o (aeval fr) τ = some (a, τ)) (hw : Wk a b) : OpP P o fr b := OpP.of_aop hT hc h hw
/-- A new variable, seen as less. -/
theorem h_allocw (hT : TyOk P Ty) (hH : Holds σ0 O A σ) {i : TI} (hi : Ty T = some i) (c : List AV) (hw : WkL i.zero.cells c) (hsp : spcl i.zero.cells = false := by rfl) : ∃ id τ, OpS P ⟨d, .alloc T, ty, pos, af, g⟩ fr σ (fun a' τ' => a' = (fun id => AV.ref id 0) id ∧ τ' = τ) ∧ (Holds σ0 ((id, c) :: O) A τ ∧ σ0.objs.length ≤ id) := by
  refine ⟨σ.objs.length, ⟨σ.objs ++ [c], σ.opn, σ.gl⟩, fun w0 G act w Q K' hI hr hK => o_alloc hT hi w0 G act w Q K' hI hr ?_, hH.add c, hH.olen⟩
  rintro v a σ' w' G' ⟨rfl, rfl⟩ hG hI' hv
  have h1 : (σ.objs ++ [i.zero.cells])[σ.objs.length]? = some i.zero.cells := by simp
  have h2 := hI'.wko h1 hsp hw
  have h3 : (σ.objs ++ [i.zero.cells]).set σ.objs.length c = σ.objs ++ [c] := by simp
  simp only [h3] at h2
  exact hK v _ _ w' G' ⟨rfl, rfl⟩ hG h2 hv
theorem mkB_at (s : List (BitVec 8)) (i : Nat) (h : i < (mkB s).size) (h' : i < s.length) : ((mkB s)[i]'h).toNat = (s[i]'h').toNat := by
  show ((mkB s).data[i]'h).toNat = _
  simp [mkB]
/-- What an iterator holds. -/
def cIt (x : List (BitVec 8) × Nat) : List AV := [.itc (mkB x.1) x.2]
/-- The next letter: none, where it is no ASCII; nothing, where there is none. -/
def nxS (x : List (BitVec 8) × Nat) : Option (Option Int) := match x.1[x.2]? with
  | some b => if b.toNat < 128 then some (some (b.toNat : Int)) else none
  | none => some none
theorem h_range (hT : TyOk P Ty) (hH : Holds σ0 O A σ) {s : List (BitVec 8)} (hd : tdOf Ty T = .str) (hx : aeval fr ox = eS s) :
    ∃ id τ, OpS P ⟨d, .range T ox, ty, pos, af, g⟩ fr σ (fun a' τ' => a' = AV.spc id ∧ τ' = τ) ∧ (Holds σ0 ((id, cIt (s, 0)) :: O) A τ ∧ σ0.objs.length ≤ id) := by
  refine ⟨σ.objs.length, ⟨σ.objs ++ [cIt (s, 0)], σ.opn, σ.gl⟩, OpS.of_run fun w0 G ρ w hI hr => ?_, hH.add _, hH.olen⟩
  have r1 := hr ox (by simp [Op.operands])
  rw [hx] at r1
  have e1 : ρ ox = .string (mkB s) := by
    generalize ρ ox = v at r1
    cases r1
    rfl
  obtain ⟨hle, hI'⟩ := hI.alloc_sp (o := .stringIter (mkB s) 0) (a := .itc (mkB s) 0) rfl (.it _ _)
  refine ⟨.pointer (some ⟨w.heap.size, 0, none⟩), _, _, ?_, hle, hI', .spc _ _ (by simp [Ghost.addLoc])⟩
  have h := run_range_string (P := P) w T (mkB s) (tdOf_ok hT hd (by simp))
  simp [execOp, e1, h, World.iter]
theorem h_next1 (hH : Holds σ0 O A σ) (k : Nat) {id : Nat} {x : List (BitVec 8) × Nat} {c : Int} (h : nxS x = some (some c)) (hk : O[k]? = some (id, cIt x)) (hx : aeval fr ox = .spc id) :
    ∃ (_ : Nat) (τ : St), OpS P ⟨d, .next ox true, ty, pos, af, g⟩ fr σ (fun a' τ' => a' = .tup [eB true, eI (x.2 : Int), eK .i32 c] ∧ τ' = τ) ∧ Holds σ0 (O.set k (id, cIt (x.1, x.2 + 1))) A τ := by
  refine ⟨0, ⟨σ.objs.set id (cIt (x.1, x.2 + 1)), σ.opn, σ.gl⟩, OpS.of_run fun w0 G ρ w hI hr => ?_, hH.put k hk _⟩
  have r1 := hr ox (by simp [Op.operands])
  rw [hx] at r1
  generalize hv : ρ ox = v at r1
  cases r1 with
  | spc _ b hl =>
  obtain ⟨b1, o, k1, k2, k3, k4⟩ := hI.sp id _ (hH.at_ k hk) rfl
  rw [hl] at k1
  injection k1 with k1
  subst k1
  cases k4
  unfold nxS at h
  cases hb : x.1[x.2]? with
  | none => rw [hb] at h; cases h
  | some y =>
    rw [hb] at h
    simp only at h
    split at h
    case isFalse => cases h
    rename_i ha
    cases h
    obtain ⟨hlt, hy⟩ := List.getElem?_eq_some_iff.1 hb
    have hsz : x.2 < (mkB x.1).size := by rw [mkB_size]; exact hlt
    have hat : ((mkB x.1)[x.2]'hsz).toNat = y.toNat := by rw [← hy]; exact mkB_at _ _ _ hlt
    refine ⟨.tuple #[.bool true, .int .i64 x.2, .int .i32 (y.toNat : Int)], _, G, ?_, .refl G, hI.set_sp (hH.at_ k hk) rfl hl (o' := .stringIter (mkB x.1) (x.2 + 1)) (a' := .itc (mkB x.1) (x.2 + 1)) rfl (.it _ _), ?_⟩
    · have h5 := run_next_at (P := P) w (mkB x.1) x.2 b ty k3 hsz (by rw [hat]; exact ha)
      rw [hat] at h5
      simp [execOp, hv, h5]
    · exact .tup _ _ rfl (fun i v a h1 h2 => by
        match i, h1, h2 with
        | 0, h1, h2 => simp at h1 h2; subst h1; subst h2; exact .bool _
        | 1, h1, h2 => simp at h1 h2; subst h1; subst h2; exact .int _ _
        | 2, h1, h2 => simp at h1 h2; subst h1; subst h2; exact .int _ _
        | n + 3, h1, h2 => simp at h1)
theorem h_next0 (hH : Holds σ0 O A σ) (k : Nat) {id : Nat} {x : List (BitVec 8) × Nat} (h : nxS x = some none) (hk : O[k]? = some (id, cIt x)) (hx : aeval fr ox = .spc id) :
    ∃ (_ : Nat) (τ : St), OpS P ⟨d, .next ox true, ty, pos, af, g⟩ fr σ (fun a' τ' => a' = .tup [eB false] ∧ τ' = τ) ∧ Holds σ0 O A τ := by
  refine ⟨0, σ, OpS.of_run fun w0 G ρ w hI hr => ?_, hH⟩
  have r1 := hr ox (by simp [Op.operands])
  rw [hx] at r1
  generalize hv : ρ ox = v at r1
  cases r1 with
  | spc _ b hl =>
  obtain ⟨b1, o, k1, k2, k3, k4⟩ := hI.sp id _ (hH.at_ k hk) rfl
  rw [hl] at k1
  injection k1 with k1
  subst k1
  cases k4
  have hge : ¬ x.2 < (mkB x.1).size := by
    rw [mkB_size]
    unfold nxS at h
    cases hb : x.1[x.2]? with
    | none => have := List.getElem?_eq_none_iff.1 hb; omega
    | some y => rw [hb] at h; simp only at h; split at h <;> cases h
  refine ⟨.tuple #[.bool false], w, G, ?_, .refl G, hI, ?_⟩
  · have h5 := run_next_done (P := P) w (mkB x.1) x.2 b ty k3 hge
    simp [execOp, hv, h5]
  · exact .tup _ _ rfl (fun i v a h1 h2 => by
      match i, h1, h2 with
      | 0, h1, h2 => simp at h1 h2; subst h1; subst h2; exact .bool _
      | n + 1, h1, h2 => simp at h1)
end
end Go.Va
namespace Go.Proofs.YthkfilchighbhaaDoor
open Go Go.Va
set_option linter.unusedSimpArgs false
def ty : TypeId → Option TI
  | 1 => some ⟨.func, 1, 8, .nilf⟩
  | 2 => some ⟨.int .i64, 1, 8, .int .i64 0⟩
  | 3 => some ⟨.int .i64, 1, 8, .int .i64 0⟩
  | 4 => some ⟨.bool, 1, 1, .bool false⟩
  | 5 => some ⟨.int .u8, 1, 1, .int .u8 0⟩
  | 6 => some ⟨.int .u8, 1, 1, .int .u8 0⟩
  | 7 => some ⟨.struct [(0, 2), (1, 3), (2, 4), (3, 6)], 4, 24, .agg [.int .i64 0, .int .i64 0, .bool false, .int .u8 0]⟩
  | 8 => some ⟨.struct [(0, 2), (1, 3), (2, 4), (3, 6)], 4, 24, .agg [.int .i64 0, .int .i64 0, .bool false, .int .u8 0]⟩
  | 9 => some ⟨.str, 1, 16, .str ⟨#[]⟩⟩
  | 10 => some ⟨.str, 1, 16, .str ⟨#[]⟩⟩
  | 11 => some ⟨.str, 1, 16, .str ⟨#[]⟩⟩
  | 12 => some ⟨.int .u64, 1, 8, .int .u64 0⟩
  | 13 => some ⟨.struct [(0, 9), (1, 12)], 2, 24, .agg [.str ⟨#[]⟩, .int .u64 0]⟩
  | 14 => some ⟨.struct [(0, 9), (1, 12)], 2, 24, .agg [.str ⟨#[]⟩, .int .u64 0]⟩
  | 15 => some ⟨.ptr 126, 1, 8, .nilp⟩
  | 16 => some ⟨.ptr 129, 1, 8, .nilp⟩
  | 17 => some ⟨.ptr 137, 1, 8, .nilp⟩
  | 18 => some ⟨.struct [(0, 17)], 1, 8, .agg [.nilp]⟩
  | 19 => some ⟨.struct [(0, 17)], 1, 8, .agg [.nilp]⟩
  | 20 => some ⟨.iface, 1, 16, .nili⟩
  | 21 => some ⟨.int .i32, 1, 4, .int .i32 0⟩
  | 22 => some ⟨.slice 5, 1, 24, .nils⟩
  | 23 => some ⟨.struct [(0, 9), (1, 3), (2, 3), (3, 3), (4, 22)], 5, 64, .agg [.str ⟨#[]⟩, .int .i64 0, .int .i64 0, .int .i64 0, .nils]⟩
  | 24 => some ⟨.struct [(0, 9), (1, 3), (2, 3), (3, 3), (4, 22)], 5, 64, .agg [.str ⟨#[]⟩, .int .i64 0, .int .i64 0, .int .i64 0, .nils]⟩
  | 25 => some ⟨.struct [(0, 3), (1, 3), (2, 3), (3, 3), (4, 3), (5, 24), (10, 4)], 11, 112, .agg [.int .i64 0, .int .i64 0, .int .i64 0, .int .i64 0, .int .i64 0, .str ⟨#[]⟩, .int .i64 0, .int .i64 0, .int .i64 0, .nils, .bool false]⟩
  | 26 => some ⟨.struct [(0, 3), (1, 3), (2, 3), (3, 3), (4, 3), (5, 24), (10, 4)], 11, 112, .agg [.int .i64 0, .int .i64 0, .int .i64 0, .int .i64 0, .int .i64 0, .str ⟨#[]⟩, .int .i64 0, .int .i64 0, .int .i64 0, .nils, .bool false]⟩
  | 27 => some ⟨.func, 1, 8, .nilf⟩
  | 28 => some ⟨.func, 1, 8, .nilf⟩
  | 29 => some ⟨.iface, 1, 16, .nili⟩
  | 30 => some ⟨.iface, 1, 16, .nili⟩
  | 32 => some ⟨.func, 1, 8, .nilf⟩
  | 33 => some ⟨.int .i64, 1, 8, .int .i64 0⟩
  | 35 => some ⟨.func, 1, 8, .nilf⟩
  | 36 => some ⟨.func, 1, 8, .nilf⟩
  | 37 => some ⟨.func, 1, 8, .nilf⟩
  | 38 => some ⟨.func, 1, 8, .nilf⟩
  | 39 => some ⟨.func, 1, 8, .nilf⟩
  | 40 => some ⟨.func, 1, 8, .nilf⟩
  | 41 => some ⟨.func, 1, 8, .nilf⟩
  | 43 => some ⟨.func, 1, 8, .nilf⟩
  | 45 => some ⟨.func, 1, 8, .nilf⟩
  | 46 => some ⟨.func, 1, 8, .nilf⟩
  | 47 => some ⟨.func, 1, 8, .nilf⟩
  | 48 => some ⟨.int .u16, 1, 2, .int .u16 0⟩
  | 49 => some ⟨.int .u32, 1, 4, .int .u32 0⟩
  | 50 => some ⟨.func, 1, 8, .nilf⟩
  | 51 => some ⟨.func, 1, 8, .nilf⟩
  | 52 => some ⟨.slice 24, 1, 24, .nils⟩
  | 53 => some ⟨.func, 1, 8, .nilf⟩
  | 54 => some ⟨.func, 1, 8, .nilf⟩
  | 55 => some ⟨.func, 1, 8, .nilf⟩
  | 56 => some ⟨.func, 1, 8, .nilf⟩
  | 57 => some ⟨.func, 1, 8, .nilf⟩
  | 58 => some ⟨.slice 3, 1, 24, .nils⟩
  | 59 => some ⟨.func, 1, 8, .nilf⟩
  | 60 => some ⟨.ptr 64, 1, 8, .nilp⟩
  | 61 => some ⟨.func, 1, 8, .nilf⟩
  | 62 => some ⟨.ptr 60, 1, 8, .nilp⟩
  | 63 => some ⟨.struct [(0, 9), (1, 3), (2, 33), (3, 30)], 4, 48, .agg [.str ⟨#[]⟩, .int .i64 0, .int .i64 0, .nili]⟩
  | 64 => some ⟨.struct [(0, 9), (1, 3), (2, 33), (3, 30)], 4, 48, .agg [.str ⟨#[]⟩, .int .i64 0, .int .i64 0, .nili]⟩
  | 65 => some ⟨.func, 1, 8, .nilf⟩
  | 66 => some ⟨.func, 1, 8, .nilf⟩
  | 67 => some ⟨.func, 1, 8, .nilf⟩
  | 68 => some ⟨.func, 1, 8, .nilf⟩
  | 69 => some ⟨.func, 1, 8, .nilf⟩
  | 70 => some ⟨.func, 1, 8, .nilf⟩
  | 71 => some ⟨.func, 1, 8, .nilf⟩
  | 72 => some ⟨.ptr 102, 1, 8, .nilp⟩
  | 73 => some ⟨.func, 1, 8, .nilf⟩
  | 74 => some ⟨.func, 1, 8, .nilf⟩
  | 75 => some ⟨.func, 1, 8, .nilf⟩
  | 76 => some ⟨.func, 1, 8, .nilf⟩
  | 77 => some ⟨.func, 1, 8, .nilf⟩
  | 78 => some ⟨.struct [(0, 22), (1, 3), (2, 33)], 3, 40, .agg [.nils, .int .i64 0, .int .i64 0]⟩
  | 79 => some ⟨.struct [(0, 22), (1, 3), (2, 33)], 3, 40, .agg [.nils, .int .i64 0, .int .i64 0]⟩
  | 81 => some ⟨.func, 1, 8, .nilf⟩
  | 83 => some ⟨.func, 1, 8, .nilf⟩
  | 84 => some ⟨.func, 1, 8, .nilf⟩
  | 85 => some ⟨.arr 4 5, 4, 4, .agg [.int .u8 0, .int .u8 0, .int .u8 0, .int .u8 0]⟩
  | 86 => some ⟨.func, 1, 8, .nilf⟩
  | 88 => some ⟨.int .u64, 1, 8, .int .u64 0⟩
  | 91 => some ⟨.func, 1, 8, .nilf⟩
  | 92 => some ⟨.iface, 1, 16, .nili⟩
  | 93 => some ⟨.iface, 1, 16, .nili⟩
  | 94 => some ⟨.func, 1, 8, .nilf⟩
  | 95 => some ⟨.int .u8, 1, 1, .int .u8 0⟩
  | 96 => some ⟨.func, 1, 8, .nilf⟩
  | 97 => some ⟨.func, 1, 8, .nilf⟩
  | 98 => some ⟨.func, 1, 8, .nilf⟩
  | 99 => some ⟨.func, 1, 8, .nilf⟩
  | 100 => some ⟨.func, 1, 8, .nilf⟩
  | 101 => some ⟨.struct [(0, 22), (1, 3), (2, 33)], 3, 40, .agg [.nils, .int .i64 0, .int .i64 0]⟩
  | 102 => some ⟨.struct [(0, 22), (1, 3), (2, 33)], 3, 40, .agg [.nils, .int .i64 0, .int .i64 0]⟩
  | 103 => some ⟨.func, 1, 8, .nilf⟩
  | 104 => some ⟨.int .u64, 1, 8, .int .u64 0⟩
  | 105 => some ⟨.func, 1, 8, .nilf⟩
  | 107 => some ⟨.func, 1, 8, .nilf⟩
  | 108 => some ⟨.func, 1, 8, .nilf⟩
  | 109 => some ⟨.struct [(0, 17)], 1, 8, .agg [.nilp]⟩
  | 110 => some ⟨.struct [(0, 17)], 1, 8, .agg [.nilp]⟩
  | 111 => some ⟨.ptr 141, 1, 8, .nilp⟩
  | 112 => some ⟨.func, 1, 8, .nilf⟩
  | 113 => some ⟨.func, 1, 8, .nilf⟩
  | 114 => some ⟨.func, 1, 8, .nilf⟩
  | 115 => some ⟨.iface, 1, 16, .nili⟩
  | 117 => some ⟨.func, 1, 8, .nilf⟩
  | 118 => some ⟨.iface, 1, 16, .nili⟩
  | 119 => some ⟨.func, 1, 8, .nilf⟩
  | 120 => some ⟨.iface, 1, 16, .nili⟩
  | 121 => some ⟨.slice 30, 1, 24, .nils⟩
  | 122 => some ⟨.func, 1, 8, .nilf⟩
  | 123 => some ⟨.func, 1, 8, .nilf⟩
  | 124 => some ⟨.func, 1, 8, .nilf⟩
  | 125 => some ⟨.struct [(0, 17), (1, 17), (2, 17), (3, 9)], 4, 40, .agg [.nilp, .nilp, .nilp, .str ⟨#[]⟩]⟩
  | 126 => some ⟨.struct [(0, 17), (1, 17), (2, 17), (3, 9)], 4, 40, .agg [.nilp, .nilp, .nilp, .str ⟨#[]⟩]⟩
  | 130 => some ⟨.func, 1, 8, .nilf⟩
  | 131 => some ⟨.int .u8, 1, 1, .int .u8 0⟩
  | 132 => some ⟨.func, 1, 8, .nilf⟩
  | 133 => some ⟨.ptr 5, 1, 8, .nilp⟩
  | 134 => some ⟨.int .i32, 1, 4, .int .i32 0⟩
  | 135 => some ⟨.int .i32, 1, 4, .int .i32 0⟩
  | 136 => some ⟨.struct [(0, 12), (1, 12), (2, 49), (3, 131), (4, 5), (5, 5), (6, 95), (7, 132), (8, 133), (9, 134), (10, 135)], 11, 48, .agg [.int .u64 0, .int .u64 0, .int .u32 0, .int .u8 0, .int .u8 0, .int .u8 0, .int .u8 0, .nilf, .nilp, .int .i32 0, .int .i32 0]⟩
  | 137 => some ⟨.struct [(0, 12), (1, 12), (2, 49), (3, 131), (4, 5), (5, 5), (6, 95), (7, 132), (8, 133), (9, 134), (10, 135)], 11, 48, .agg [.int .u64 0, .int .u64 0, .int .u32 0, .int .u8 0, .int .u8 0, .int .u8 0, .int .u8 0, .nilf, .nilp, .int .i32 0, .int .i32 0]⟩
  | 138 => some ⟨.func, 1, 8, .nilf⟩
  | 139 => some ⟨.func, 1, 8, .nilf⟩
  | 140 => some ⟨.struct [(0, 9), (1, 95)], 2, 24, .agg [.str ⟨#[]⟩, .int .u8 0]⟩
  | 141 => some ⟨.struct [(0, 9), (1, 95)], 2, 24, .agg [.str ⟨#[]⟩, .int .u8 0]⟩
  | 142 => some ⟨.ptr 145, 1, 8, .nilp⟩
  | 143 => some ⟨.func, 1, 8, .nilf⟩
  | 144 => some ⟨.struct [(0, 134), (1, 48), (2, 48), (3, 49), (4, 49)], 5, 16, .agg [.int .i32 0, .int .u16 0, .int .u16 0, .int .u32 0, .int .u32 0]⟩
  | 145 => some ⟨.struct [(0, 134), (1, 48), (2, 48), (3, 49), (4, 49)], 5, 16, .agg [.int .i32 0, .int .u16 0, .int .u16 0, .int .u32 0, .int .u32 0]⟩
  | 146 => some ⟨.slice 149, 1, 24, .nils⟩
  | 147 => some ⟨.int .i32, 1, 4, .int .i32 0⟩
  | 148 => some ⟨.struct [(0, 134), (1, 135), (2, 147), (3, 147)], 4, 16, .agg [.int .i32 0, .int .i32 0, .int .i32 0, .int .i32 0]⟩
  | 149 => some ⟨.struct [(0, 134), (1, 135), (2, 147), (3, 147)], 4, 16, .agg [.int .i32 0, .int .i32 0, .int .i32 0, .int .i32 0]⟩
  | 150 => some ⟨.ptr 30, 1, 8, .nilp⟩
  | _ => none
theorem ty1 : ty 1 = some ⟨.func, 1, 8, .nilf⟩ := rfl
theorem td1 : tdOf ty 1 = .func := rfl
theorem sz1 : szOf ty 1 = 1 := rfl
theorem ty2 : ty 2 = some ⟨.int .i64, 1, 8, .int .i64 0⟩ := rfl
theorem td2 : tdOf ty 2 = .int .i64 := rfl
theorem sz2 : szOf ty 2 = 1 := rfl
theorem ty3 : ty 3 = some ⟨.int .i64, 1, 8, .int .i64 0⟩ := rfl
theorem td3 : tdOf ty 3 = .int .i64 := rfl
theorem sz3 : szOf ty 3 = 1 := rfl
theorem ty4 : ty 4 = some ⟨.bool, 1, 1, .bool false⟩ := rfl
theorem td4 : tdOf ty 4 = .bool := rfl
theorem sz4 : szOf ty 4 = 1 := rfl
theorem ty5 : ty 5 = some ⟨.int .u8, 1, 1, .int .u8 0⟩ := rfl
theorem td5 : tdOf ty 5 = .int .u8 := rfl
theorem sz5 : szOf ty 5 = 1 := rfl
theorem ty6 : ty 6 = some ⟨.int .u8, 1, 1, .int .u8 0⟩ := rfl
theorem td6 : tdOf ty 6 = .int .u8 := rfl
theorem sz6 : szOf ty 6 = 1 := rfl
theorem ty7 : ty 7 = some ⟨.struct [(0, 2), (1, 3), (2, 4), (3, 6)], 4, 24, .agg [.int .i64 0, .int .i64 0, .bool false, .int .u8 0]⟩ := rfl
theorem td7 : tdOf ty 7 = .struct [(0, 2), (1, 3), (2, 4), (3, 6)] := rfl
theorem sz7 : szOf ty 7 = 4 := rfl
theorem ty8 : ty 8 = some ⟨.struct [(0, 2), (1, 3), (2, 4), (3, 6)], 4, 24, .agg [.int .i64 0, .int .i64 0, .bool false, .int .u8 0]⟩ := rfl
theorem td8 : tdOf ty 8 = .struct [(0, 2), (1, 3), (2, 4), (3, 6)] := rfl
theorem sz8 : szOf ty 8 = 4 := rfl
theorem ty9 : ty 9 = some ⟨.str, 1, 16, .str ⟨#[]⟩⟩ := rfl
theorem td9 : tdOf ty 9 = .str := rfl
theorem sz9 : szOf ty 9 = 1 := rfl
theorem ty10 : ty 10 = some ⟨.str, 1, 16, .str ⟨#[]⟩⟩ := rfl
theorem td10 : tdOf ty 10 = .str := rfl
theorem sz10 : szOf ty 10 = 1 := rfl
theorem ty11 : ty 11 = some ⟨.str, 1, 16, .str ⟨#[]⟩⟩ := rfl
theorem td11 : tdOf ty 11 = .str := rfl
theorem sz11 : szOf ty 11 = 1 := rfl
theorem ty12 : ty 12 = some ⟨.int .u64, 1, 8, .int .u64 0⟩ := rfl
theorem td12 : tdOf ty 12 = .int .u64 := rfl
theorem sz12 : szOf ty 12 = 1 := rfl
theorem ty13 : ty 13 = some ⟨.struct [(0, 9), (1, 12)], 2, 24, .agg [.str ⟨#[]⟩, .int .u64 0]⟩ := rfl
theorem td13 : tdOf ty 13 = .struct [(0, 9), (1, 12)] := rfl
theorem sz13 : szOf ty 13 = 2 := rfl
theorem ty14 : ty 14 = some ⟨.struct [(0, 9), (1, 12)], 2, 24, .agg [.str ⟨#[]⟩, .int .u64 0]⟩ := rfl
theorem td14 : tdOf ty 14 = .struct [(0, 9), (1, 12)] := rfl
theorem sz14 : szOf ty 14 = 2 := rfl
theorem ty15 : ty 15 = some ⟨.ptr 126, 1, 8, .nilp⟩ := rfl
theorem td15 : tdOf ty 15 = .ptr 126 := rfl
theorem sz15 : szOf ty 15 = 1 := rfl
theorem ty16 : ty 16 = some ⟨.ptr 129, 1, 8, .nilp⟩ := rfl
theorem td16 : tdOf ty 16 = .ptr 129 := rfl
theorem sz16 : szOf ty 16 = 1 := rfl
theorem ty17 : ty 17 = some ⟨.ptr 137, 1, 8, .nilp⟩ := rfl
theorem td17 : tdOf ty 17 = .ptr 137 := rfl
theorem sz17 : szOf ty 17 = 1 := rfl
theorem ty18 : ty 18 = some ⟨.struct [(0, 17)], 1, 8, .agg [.nilp]⟩ := rfl
theorem td18 : tdOf ty 18 = .struct [(0, 17)] := rfl
theorem sz18 : szOf ty 18 = 1 := rfl
theorem ty19 : ty 19 = some ⟨.struct [(0, 17)], 1, 8, .agg [.nilp]⟩ := rfl
theorem td19 : tdOf ty 19 = .struct [(0, 17)] := rfl
theorem sz19 : szOf ty 19 = 1 := rfl
theorem ty20 : ty 20 = some ⟨.iface, 1, 16, .nili⟩ := rfl
theorem td20 : tdOf ty 20 = .iface := rfl
theorem sz20 : szOf ty 20 = 1 := rfl
theorem ty21 : ty 21 = some ⟨.int .i32, 1, 4, .int .i32 0⟩ := rfl
theorem td21 : tdOf ty 21 = .int .i32 := rfl
theorem sz21 : szOf ty 21 = 1 := rfl
theorem ty22 : ty 22 = some ⟨.slice 5, 1, 24, .nils⟩ := rfl
theorem td22 : tdOf ty 22 = .slice 5 := rfl
theorem sz22 : szOf ty 22 = 1 := rfl
theorem ty23 : ty 23 = some ⟨.struct [(0, 9), (1, 3), (2, 3), (3, 3), (4, 22)], 5, 64, .agg [.str ⟨#[]⟩, .int .i64 0, .int .i64 0, .int .i64 0, .nils]⟩ := rfl
theorem td23 : tdOf ty 23 = .struct [(0, 9), (1, 3), (2, 3), (3, 3), (4, 22)] := rfl
theorem sz23 : szOf ty 23 = 5 := rfl
theorem ty24 : ty 24 = some ⟨.struct [(0, 9), (1, 3), (2, 3), (3, 3), (4, 22)], 5, 64, .agg [.str ⟨#[]⟩, .int .i64 0, .int .i64 0, .int .i64 0, .nils]⟩ := rfl
theorem td24 : tdOf ty 24 = .struct [(0, 9), (1, 3), (2, 3), (3, 3), (4, 22)] := rfl
theorem sz24 : szOf ty 24 = 5 := rfl
theorem ty25 : ty 25 = some ⟨.struct [(0, 3), (1, 3), (2, 3), (3, 3), (4, 3), (5, 24), (10, 4)], 11, 112, .agg [.int .i64 0, .int .i64 0, .int .i64 0, .int .i64 0, .int .i64 0, .str ⟨#[]⟩, .int .i64 0, .int .i64 0, .int .i64 0, .nils, .bool false]⟩ := rfl
theorem td25 : tdOf ty 25 = .struct [(0, 3), (1, 3), (2, 3), (3, 3), (4, 3), (5, 24), (10, 4)] := rfl
theorem sz25 : szOf ty 25 = 11 := rfl
theorem ty26 : ty 26 = some ⟨.struct [(0, 3), (1, 3), (2, 3), (3, 3), (4, 3), (5, 24), (10, 4)], 11, 112, .agg [.int .i64 0, .int .i64 0, .int .i64 0, .int .i64 0, .int .i64 0, .str ⟨#[]⟩, .int .i64 0, .int .i64 0, .int .i64 0, .nils, .bool false]⟩ := rfl
theorem td26 : tdOf ty 26 = .struct [(0, 3), (1, 3), (2, 3), (3, 3), (4, 3), (5, 24), (10, 4)] := rfl
theorem sz26 : szOf ty 26 = 11 := rfl
theorem ty27 : ty 27 = some ⟨.func, 1, 8, .nilf⟩ := rfl
theorem td27 : tdOf ty 27 = .func := rfl
theorem sz27 : szOf ty 27 = 1 := rfl
theorem ty28 : ty 28 = some ⟨.func, 1, 8, .nilf⟩ := rfl
theorem td28 : tdOf ty 28 = .func := rfl
theorem sz28 : szOf ty 28 = 1 := rfl
theorem ty29 : ty 29 = some ⟨.iface, 1, 16, .nili⟩ := rfl
theorem td29 : tdOf ty 29 = .iface := rfl
theorem sz29 : szOf ty 29 = 1 := rfl
theorem ty30 : ty 30 = some ⟨.iface, 1, 16, .nili⟩ := rfl
theorem td30 : tdOf ty 30 = .iface := rfl
theorem sz30 : szOf ty 30 = 1 := rfl
theorem ty32 : ty 32 = some ⟨.func, 1, 8, .nilf⟩ := rfl
theorem td32 : tdOf ty 32 = .func := rfl
theorem sz32 : szOf ty 32 = 1 := rfl
theorem ty33 : ty 33 = some ⟨.int .i64, 1, 8, .int .i64 0⟩ := rfl
theorem td33 : tdOf ty 33 = .int .i64 := rfl
theorem sz33 : szOf ty 33 = 1 := rfl
theorem ty35 : ty 35 = some ⟨.func, 1, 8, .nilf⟩ := rfl
theorem td35 : tdOf ty 35 = .func := rfl
theorem sz35 : szOf ty 35 = 1 := rfl
theorem ty36 : ty 36 = some ⟨.func, 1, 8, .nilf⟩ := rfl
theorem td36 : tdOf ty 36 = .func := rfl
theorem sz36 : szOf ty 36 = 1 := rfl
theorem ty37 : ty 37 = some ⟨.func, 1, 8, .nilf⟩ := rfl
theorem td37 : tdOf ty 37 = .func := rfl
theorem sz37 : szOf ty 37 = 1 := rfl
theorem ty38 : ty 38 = some ⟨.func, 1, 8, .nilf⟩ := rfl
theorem td38 : tdOf ty 38 = .func := rfl
theorem sz38 : szOf ty 38 = 1 := rfl
theorem ty39 : ty 39 = some ⟨.func, 1, 8, .nilf⟩ := rfl
theorem td39 : tdOf ty 39 = .func := rfl
theorem sz39 : szOf ty 39 = 1 := rfl
theorem ty40 : ty 40 = some ⟨.func, 1, 8, .nilf⟩ := rfl
theorem td40 : tdOf ty 40 = .func := rfl
theorem sz40 : szOf ty 40 = 1 := rfl
theorem ty41 : ty 41 = some ⟨.func, 1, 8, .nilf⟩ := rfl
theorem td41 : tdOf ty 41 = .func := rfl
theorem sz41 : szOf ty 41 = 1 := rfl
theorem ty43 : ty 43 = some ⟨.func, 1, 8, .nilf⟩ := rfl
theorem td43 : tdOf ty 43 = .func := rfl
theorem sz43 : szOf ty 43 = 1 := rfl
theorem ty45 : ty 45 = some ⟨.func, 1, 8, .nilf⟩ := rfl
theorem td45 : tdOf ty 45 = .func := rfl
theorem sz45 : szOf ty 45 = 1 := rfl
theorem ty46 : ty 46 = some ⟨.func, 1, 8, .nilf⟩ := rfl
theorem td46 : tdOf ty 46 = .func := rfl
theorem sz46 : szOf ty 46 = 1 := rfl
theorem ty47 : ty 47 = some ⟨.func, 1, 8, .nilf⟩ := rfl
theorem td47 : tdOf ty 47 = .func := rfl
theorem sz47 : szOf ty 47 = 1 := rfl
theorem ty48 : ty 48 = some ⟨.int .u16, 1, 2, .int .u16 0⟩ := rfl
theorem td48 : tdOf ty 48 = .int .u16 := rfl
theorem sz48 : szOf ty 48 = 1 := rfl
theorem ty49 : ty 49 = some ⟨.int .u32, 1, 4, .int .u32 0⟩ := rfl
theorem td49 : tdOf ty 49 = .int .u32 := rfl
theorem sz49 : szOf ty 49 = 1 := rfl
theorem ty50 : ty 50 = some ⟨.func, 1, 8, .nilf⟩ := rfl
theorem td50 : tdOf ty 50 = .func := rfl
theorem sz50 : szOf ty 50 = 1 := rfl
theorem ty51 : ty 51 = some ⟨.func, 1, 8, .nilf⟩ := rfl
theorem td51 : tdOf ty 51 = .func := rfl
theorem sz51 : szOf ty 51 = 1 := rfl
theorem ty52 : ty 52 = some ⟨.slice 24, 1, 24, .nils⟩ := rfl
theorem td52 : tdOf ty 52 = .slice 24 := rfl
theorem sz52 : szOf ty 52 = 1 := rfl
theorem ty53 : ty 53 = some ⟨.func, 1, 8, .nilf⟩ := rfl
theorem td53 : tdOf ty 53 = .func := rfl
theorem sz53 : szOf ty 53 = 1 := rfl
theorem ty54 : ty 54 = some ⟨.func, 1, 8, .nilf⟩ := rfl
theorem td54 : tdOf ty 54 = .func := rfl
theorem sz54 : szOf ty 54 = 1 := rfl
theorem ty55 : ty 55 = some ⟨.func, 1, 8, .nilf⟩ := rfl
theorem td55 : tdOf ty 55 = .func := rfl
theorem sz55 : szOf ty 55 = 1 := rfl
theorem ty56 : ty 56 = some ⟨.func, 1, 8, .nilf⟩ := rfl
theorem td56 : tdOf ty 56 = .func := rfl
theorem sz56 : szOf ty 56 = 1 := rfl
theorem ty57 : ty 57 = some ⟨.func, 1, 8, .nilf⟩ := rfl
theorem td57 : tdOf ty 57 = .func := rfl
theorem sz57 : szOf ty 57 = 1 := rfl
theorem ty58 : ty 58 = some ⟨.slice 3, 1, 24, .nils⟩ := rfl
theorem td58 : tdOf ty 58 = .slice 3 := rfl
theorem sz58 : szOf ty 58 = 1 := rfl
theorem ty59 : ty 59 = some ⟨.func, 1, 8, .nilf⟩ := rfl
theorem td59 : tdOf ty 59 = .func := rfl
theorem sz59 : szOf ty 59 = 1 := rfl
theorem ty60 : ty 60 = some ⟨.ptr 64, 1, 8, .nilp⟩ := rfl
theorem td60 : tdOf ty 60 = .ptr 64 := rfl
theorem sz60 : szOf ty 60 = 1 := rfl
theorem ty61 : ty 61 = some ⟨.func, 1, 8, .nilf⟩ := rfl
theorem td61 : tdOf ty 61 = .func := rfl
theorem sz61 : szOf ty 61 = 1 := rfl
theorem ty62 : ty 62 = some ⟨.ptr 60, 1, 8, .nilp⟩ := rfl
theorem td62 : tdOf ty 62 = .ptr 60 := rfl
theorem sz62 : szOf ty 62 = 1 := rfl
theorem ty63 : ty 63 = some ⟨.struct [(0, 9), (1, 3), (2, 33), (3, 30)], 4, 48, .agg [.str ⟨#[]⟩, .int .i64 0, .int .i64 0, .nili]⟩ := rfl
theorem td63 : tdOf ty 63 = .struct [(0, 9), (1, 3), (2, 33), (3, 30)] := rfl
theorem sz63 : szOf ty 63 = 4 := rfl
theorem ty64 : ty 64 = some ⟨.struct [(0, 9), (1, 3), (2, 33), (3, 30)], 4, 48, .agg [.str ⟨#[]⟩, .int .i64 0, .int .i64 0, .nili]⟩ := rfl
theorem td64 : tdOf ty 64 = .struct [(0, 9), (1, 3), (2, 33), (3, 30)] := rfl
theorem sz64 : szOf ty 64 = 4 := rfl
theorem ty65 : ty 65 = some ⟨.func, 1, 8, .nilf⟩ := rfl
theorem td65 : tdOf ty 65 = .func := rfl
theorem sz65 : szOf ty 65 = 1 := rfl
theorem ty66 : ty 66 = some ⟨.func, 1, 8, .nilf⟩ := rfl
theorem td66 : tdOf ty 66 = .func := rfl
theorem sz66 : szOf ty 66 = 1 := rfl
theorem ty67 : ty 67 = some ⟨.func, 1, 8, .nilf⟩ := rfl
theorem td67 : tdOf ty 67 = .func := rfl
theorem sz67 : szOf ty 67 = 1 := rfl
theorem ty68 : ty 68 = some ⟨.func, 1, 8, .nilf⟩ := rfl
theorem td68 : tdOf ty 68 = .func := rfl
theorem sz68 : szOf ty 68 = 1 := rfl
theorem ty69 : ty 69 = some ⟨.func, 1, 8, .nilf⟩ := rfl
theorem td69 : tdOf ty 69 = .func := rfl
theorem sz69 : szOf ty 69 = 1 := rfl
theorem ty70 : ty 70 = some ⟨.func, 1, 8, .nilf⟩ := rfl
theorem td70 : tdOf ty 70 = .func := rfl
theorem sz70 : szOf ty 70 = 1 := rfl
theorem ty71 : ty 71 = some ⟨.func, 1, 8, .nilf⟩ := rfl
theorem td71 : tdOf ty 71 = .func := rfl
theorem sz71 : szOf ty 71 = 1 := rfl
theorem ty72 : ty 72 = some ⟨.ptr 102, 1, 8, .nilp⟩ := rfl
theorem td72 : tdOf ty 72 = .ptr 102 := rfl
theorem sz72 : szOf ty 72 = 1 := rfl
theorem ty73 : ty 73 = some ⟨.func, 1, 8, .nilf⟩ := rfl
theorem td73 : tdOf ty 73 = .func := rfl
theorem sz73 : szOf ty 73 = 1 := rfl
theorem ty74 : ty 74 = some ⟨.func, 1, 8, .nilf⟩ := rfl
theorem td74 : tdOf ty 74 = .func := rfl
theorem sz74 : szOf ty 74 = 1 := rfl
theorem ty75 : ty 75 = some ⟨.func, 1, 8, .nilf⟩ := rfl
theorem td75 : tdOf ty 75 = .func := rfl
theorem sz75 : szOf ty 75 = 1 := rfl
theorem ty76 : ty 76 = some ⟨.func, 1, 8, .nilf⟩ := rfl
theorem td76 : tdOf ty 76 = .func := rfl
theorem sz76 : szOf ty 76 = 1 := rfl
theorem ty77 : ty 77 = some ⟨.func, 1, 8, .nilf⟩ := rfl
theorem td77 : tdOf ty 77 = .func := rfl
theorem sz77 : szOf ty 77 = 1 := rfl
theorem ty78 : ty 78 = some ⟨.struct [(0, 22), (1, 3), (2, 33)], 3, 40, .agg [.nils, .int .i64 0, .int .i64 0]⟩ := rfl
theorem td78 : tdOf ty 78 = .struct [(0, 22), (1, 3), (2, 33)] := rfl
theorem sz78 : szOf ty 78 = 3 := rfl
theorem ty79 : ty 79 = some ⟨.struct [(0, 22), (1, 3), (2, 33)], 3, 40, .agg [.nils, .int .i64 0, .int .i64 0]⟩ := rfl
theorem td79 : tdOf ty 79 = .struct [(0, 22), (1, 3), (2, 33)] := rfl
theorem sz79 : szOf ty 79 = 3 := rfl
theorem ty81 : ty 81 = some ⟨.func, 1, 8, .nilf⟩ := rfl
theorem td81 : tdOf ty 81 = .func := rfl
theorem sz81 : szOf ty 81 = 1 := rfl
theorem ty83 : ty 83 = some ⟨.func, 1, 8, .nilf⟩ := rfl
theorem td83 : tdOf ty 83 = .func := rfl
theorem sz83 : szOf ty 83 = 1 := rfl
theorem ty84 : ty 84 = some ⟨.func, 1, 8, .nilf⟩ := rfl
theorem td84 : tdOf ty 84 = .func := rfl
theorem sz84 : szOf ty 84 = 1 := rfl
theorem ty85 : ty 85 = some ⟨.arr 4 5, 4, 4, .agg [.int .u8 0, .int .u8 0, .int .u8 0, .int .u8 0]⟩ := rfl
theorem td85 : tdOf ty 85 = .arr 4 5 := rfl
theorem sz85 : szOf ty 85 = 4 := rfl
theorem ty86 : ty 86 = some ⟨.func, 1, 8, .nilf⟩ := rfl
theorem td86 : tdOf ty 86 = .func := rfl
theorem sz86 : szOf ty 86 = 1 := rfl
theorem ty88 : ty 88 = some ⟨.int .u64, 1, 8, .int .u64 0⟩ := rfl
theorem td88 : tdOf ty 88 = .int .u64 := rfl
theorem sz88 : szOf ty 88 = 1 := rfl
theorem ty91 : ty 91 = some ⟨.func, 1, 8, .nilf⟩ := rfl
theorem td91 : tdOf ty 91 = .func := rfl
theorem sz91 : szOf ty 91 = 1 := rfl
theorem ty92 : ty 92 = some ⟨.iface, 1, 16, .nili⟩ := rfl
theorem td92 : tdOf ty 92 = .iface := rfl
theorem sz92 : szOf ty 92 = 1 := rfl
theorem ty93 : ty 93 = some ⟨.iface, 1, 16, .nili⟩ := rfl
theorem td93 : tdOf ty 93 = .iface := rfl
theorem sz93 : szOf ty 93 = 1 := rfl
theorem ty94 : ty 94 = some ⟨.func, 1, 8, .nilf⟩ := rfl
theorem td94 : tdOf ty 94 = .func := rfl
theorem sz94 : szOf ty 94 = 1 := rfl
theorem ty95 : ty 95 = some ⟨.int .u8, 1, 1, .int .u8 0⟩ := rfl
theorem td95 : tdOf ty 95 = .int .u8 := rfl
theorem sz95 : szOf ty 95 = 1 := rfl
theorem ty96 : ty 96 = some ⟨.func, 1, 8, .nilf⟩ := rfl
theorem td96 : tdOf ty 96 = .func := rfl
theorem sz96 : szOf ty 96 = 1 := rfl
theorem ty97 : ty 97 = some ⟨.func, 1, 8, .nilf⟩ := rfl
theorem td97 : tdOf ty 97 = .func := rfl
theorem sz97 : szOf ty 97 = 1 := rfl
theorem ty98 : ty 98 = some ⟨.func, 1, 8, .nilf⟩ := rfl
theorem td98 : tdOf ty 98 = .func := rfl
theorem sz98 : szOf ty 98 = 1 := rfl
theorem ty99 : ty 99 = some ⟨.func, 1, 8, .nilf⟩ := rfl
theorem td99 : tdOf ty 99 = .func := rfl
theorem sz99 : szOf ty 99 = 1 := rfl
theorem ty100 : ty 100 = some ⟨.func, 1, 8, .nilf⟩ := rfl
theorem td100 : tdOf ty 100 = .func := rfl
theorem sz100 : szOf ty 100 = 1 := rfl
theorem ty101 : ty 101 = some ⟨.struct [(0, 22), (1, 3), (2, 33)], 3, 40, .agg [.nils, .int .i64 0, .int .i64 0]⟩ := rfl
theorem td101 : tdOf ty 101 = .struct [(0, 22), (1, 3), (2, 33)] := rfl
theorem sz101 : szOf ty 101 = 3 := rfl
theorem ty102 : ty 102 = some ⟨.struct [(0, 22), (1, 3), (2, 33)], 3, 40, .agg [.nils, .int .i64 0, .int .i64 0]⟩ := rfl
theorem td102 : tdOf ty 102 = .struct [(0, 22), (1, 3), (2, 33)] := rfl
theorem sz102 : szOf ty 102 = 3 := rfl
theorem ty103 : ty 103 = some ⟨.func, 1, 8, .nilf⟩ := rfl
theorem td103 : tdOf ty 103 = .func := rfl
theorem sz103 : szOf ty 103 = 1 := rfl
theorem ty104 : ty 104 = some ⟨.int .u64, 1, 8, .int .u64 0⟩ := rfl
theorem td104 : tdOf ty 104 = .int .u64 := rfl
theorem sz104 : szOf ty 104 = 1 := rfl
theorem ty105 : ty 105 = some ⟨.func, 1, 8, .nilf⟩ := rfl
theorem td105 : tdOf ty 105 = .func := rfl
theorem sz105 : szOf ty 105 = 1 := rfl
theorem ty107 : ty 107 = some ⟨.func, 1, 8, .nilf⟩ := rfl
theorem td107 : tdOf ty 107 = .func := rfl
theorem sz107 : szOf ty 107 = 1 := rfl
theorem ty108 : ty 108 = some ⟨.func, 1, 8, .nilf⟩ := rfl
theorem td108 : tdOf ty 108 = .func := rfl
theorem sz108 : szOf ty 108 = 1 := rfl
theorem ty109 : ty 109 = some ⟨.struct [(0, 17)], 1, 8, .agg [.nilp]⟩ := rfl
theorem td109 : tdOf ty 109 = .struct [(0, 17)] := rfl
theorem sz109 : szOf ty 109 = 1 := rfl
theorem ty110 : ty 110 = some ⟨.struct [(0, 17)], 1, 8, .agg [.nilp]⟩ := rfl
theorem td110 : tdOf ty 110 = .struct [(0, 17)] := rfl
theorem sz110 : szOf ty 110 = 1 := rfl
theorem ty111 : ty 111 = some ⟨.ptr 141, 1, 8, .nilp⟩ := rfl
theorem td111 : tdOf ty 111 = .ptr 141 := rfl
theorem sz111 : szOf ty 111 = 1 := rfl
theorem ty112 : ty 112 = some ⟨.func, 1, 8, .nilf⟩ := rfl
theorem td112 : tdOf ty 112 = .func := rfl
theorem sz112 : szOf ty 112 = 1 := rfl
theorem ty113 : ty 113 = some ⟨.func, 1, 8, .nilf⟩ := rfl
theorem td113 : tdOf ty 113 = .func := rfl
theorem sz113 : szOf ty 113 = 1 := rfl
theorem ty114 : ty 114 = some ⟨.func, 1, 8, .nilf⟩ := rfl
theorem td114 : tdOf ty 114 = .func := rfl
theorem sz114 : szOf ty 114 = 1 := rfl
theorem ty115 : ty 115 = some ⟨.iface, 1, 16, .nili⟩ := rfl
theorem td115 : tdOf ty 115 = .iface := rfl
theorem sz115 : szOf ty 115 = 1 := rfl
theorem ty117 : ty 117 = some ⟨.func, 1, 8, .nilf⟩ := rfl
theorem td117 : tdOf ty 117 = .func := rfl
theorem sz117 : szOf ty 117 = 1 := rfl
theorem ty118 : ty 118 = some ⟨.iface, 1, 16, .nili⟩ := rfl
theorem td118 : tdOf ty 118 = .iface := rfl
theorem sz118 : szOf ty 118 = 1 := rfl
theorem ty119 : ty 119 = some ⟨.func, 1, 8, .nilf⟩ := rfl
theorem td119 : tdOf ty 119 = .func := rfl
theorem sz119 : szOf ty 119 = 1 := rfl
theorem ty120 : ty 120 = some ⟨.iface, 1, 16, .nili⟩ := rfl
theorem td120 : tdOf ty 120 = .iface := rfl
theorem sz120 : szOf ty 120 = 1 := rfl
theorem ty121 : ty 121 = some ⟨.slice 30, 1, 24, .nils⟩ := rfl
theorem td121 : tdOf ty 121 = .slice 30 := rfl
theorem sz121 : szOf ty 121 = 1 := rfl
theorem ty122 : ty 122 = some ⟨.func, 1, 8, .nilf⟩ := rfl
theorem td122 : tdOf ty 122 = .func := rfl
theorem sz122 : szOf ty 122 = 1 := rfl
theorem ty123 : ty 123 = some ⟨.func, 1, 8, .nilf⟩ := rfl
theorem td123 : tdOf ty 123 = .func := rfl
theorem sz123 : szOf ty 123 = 1 := rfl
theorem ty124 : ty 124 = some ⟨.func, 1, 8, .nilf⟩ := rfl
theorem td124 : tdOf ty 124 = .func := rfl
theorem sz124 : szOf ty 124 = 1 := rfl
theorem ty125 : ty 125 = some ⟨.struct [(0, 17), (1, 17), (2, 17), (3, 9)], 4, 40, .agg [.nilp, .nilp, .nilp, .str ⟨#[]⟩]⟩ := rfl
theorem td125 : tdOf ty 125 = .struct [(0, 17), (1, 17), (2, 17), (3, 9)] := rfl
theorem sz125 : szOf ty 125 = 4 := rfl
theorem ty126 : ty 126 = some ⟨.struct [(0, 17), (1, 17), (2, 17), (3, 9)], 4, 40, .agg [.nilp, .nilp, .nilp, .str ⟨#[]⟩]⟩ := rfl
theorem td126 : tdOf ty 126 = .struct [(0, 17), (1, 17), (2, 17), (3, 9)] := rfl
theorem sz126 : szOf ty 126 = 4 := rfl
theorem ty130 : ty 130 = some ⟨.func, 1, 8, .nilf⟩ := rfl
theorem td130 : tdOf ty 130 = .func := rfl
theorem sz130 : szOf ty 130 = 1 := rfl
theorem ty131 : ty 131 = some ⟨.int .u8, 1, 1, .int .u8 0⟩ := rfl
theorem td131 : tdOf ty 131 = .int .u8 := rfl
theorem sz131 : szOf ty 131 = 1 := rfl
theorem ty132 : ty 132 = some ⟨.func, 1, 8, .nilf⟩ := rfl
theorem td132 : tdOf ty 132 = .func := rfl
theorem sz132 : szOf ty 132 = 1 := rfl
theorem ty133 : ty 133 = some ⟨.ptr 5, 1, 8, .nilp⟩ := rfl
theorem td133 : tdOf ty 133 = .ptr 5 := rfl
theorem sz133 : szOf ty 133 = 1 := rfl
theorem ty134 : ty 134 = some ⟨.int .i32, 1, 4, .int .i32 0⟩ := rfl
theorem td134 : tdOf ty 134 = .int .i32 := rfl
theorem sz134 : szOf ty 134 = 1 := rfl
theorem ty135 : ty 135 = some ⟨.int .i32, 1, 4, .int .i32 0⟩ := rfl
theorem td135 : tdOf ty 135 = .int .i32 := rfl
theorem sz135 : szOf ty 135 = 1 := rfl
theorem ty136 : ty 136 = some ⟨.struct [(0, 12), (1, 12), (2, 49), (3, 131), (4, 5), (5, 5), (6, 95), (7, 132), (8, 133), (9, 134), (10, 135)], 11, 48, .agg [.int .u64 0, .int .u64 0, .int .u32 0, .int .u8 0, .int .u8 0, .int .u8 0, .int .u8 0, .nilf, .nilp, .int .i32 0, .int .i32 0]⟩ := rfl
theorem td136 : tdOf ty 136 = .struct [(0, 12), (1, 12), (2, 49), (3, 131), (4, 5), (5, 5), (6, 95), (7, 132), (8, 133), (9, 134), (10, 135)] := rfl
theorem sz136 : szOf ty 136 = 11 := rfl
theorem ty137 : ty 137 = some ⟨.struct [(0, 12), (1, 12), (2, 49), (3, 131), (4, 5), (5, 5), (6, 95), (7, 132), (8, 133), (9, 134), (10, 135)], 11, 48, .agg [.int .u64 0, .int .u64 0, .int .u32 0, .int .u8 0, .int .u8 0, .int .u8 0, .int .u8 0, .nilf, .nilp, .int .i32 0, .int .i32 0]⟩ := rfl
theorem td137 : tdOf ty 137 = .struct [(0, 12), (1, 12), (2, 49), (3, 131), (4, 5), (5, 5), (6, 95), (7, 132), (8, 133), (9, 134), (10, 135)] := rfl
theorem sz137 : szOf ty 137 = 11 := rfl
theorem ty138 : ty 138 = some ⟨.func, 1, 8, .nilf⟩ := rfl
theorem td138 : tdOf ty 138 = .func := rfl
theorem sz138 : szOf ty 138 = 1 := rfl
theorem ty139 : ty 139 = some ⟨.func, 1, 8, .nilf⟩ := rfl
theorem td139 : tdOf ty 139 = .func := rfl
theorem sz139 : szOf ty 139 = 1 := rfl
theorem ty140 : ty 140 = some ⟨.struct [(0, 9), (1, 95)], 2, 24, .agg [.str ⟨#[]⟩, .int .u8 0]⟩ := rfl
theorem td140 : tdOf ty 140 = .struct [(0, 9), (1, 95)] := rfl
theorem sz140 : szOf ty 140 = 2 := rfl
theorem ty141 : ty 141 = some ⟨.struct [(0, 9), (1, 95)], 2, 24, .agg [.str ⟨#[]⟩, .int .u8 0]⟩ := rfl
theorem td141 : tdOf ty 141 = .struct [(0, 9), (1, 95)] := rfl
theorem sz141 : szOf ty 141 = 2 := rfl
theorem ty142 : ty 142 = some ⟨.ptr 145, 1, 8, .nilp⟩ := rfl
theorem td142 : tdOf ty 142 = .ptr 145 := rfl
theorem sz142 : szOf ty 142 = 1 := rfl
theorem ty143 : ty 143 = some ⟨.func, 1, 8, .nilf⟩ := rfl
theorem td143 : tdOf ty 143 = .func := rfl
theorem sz143 : szOf ty 143 = 1 := rfl
theorem ty144 : ty 144 = some ⟨.struct [(0, 134), (1, 48), (2, 48), (3, 49), (4, 49)], 5, 16, .agg [.int .i32 0, .int .u16 0, .int .u16 0, .int .u32 0, .int .u32 0]⟩ := rfl
theorem td144 : tdOf ty 144 = .struct [(0, 134), (1, 48), (2, 48), (3, 49), (4, 49)] := rfl
theorem sz144 : szOf ty 144 = 5 := rfl
theorem ty145 : ty 145 = some ⟨.struct [(0, 134), (1, 48), (2, 48), (3, 49), (4, 49)], 5, 16, .agg [.int .i32 0, .int .u16 0, .int .u16 0, .int .u32 0, .int .u32 0]⟩ := rfl
theorem td145 : tdOf ty 145 = .struct [(0, 134), (1, 48), (2, 48), (3, 49), (4, 49)] := rfl
theorem sz145 : szOf ty 145 = 5 := rfl
theorem ty146 : ty 146 = some ⟨.slice 149, 1, 24, .nils⟩ := rfl
theorem td146 : tdOf ty 146 = .slice 149 := rfl
theorem sz146 : szOf ty 146 = 1 := rfl
theorem ty147 : ty 147 = some ⟨.int .i32, 1, 4, .int .i32 0⟩ := rfl
theorem td147 : tdOf ty 147 = .int .i32 := rfl
theorem sz147 : szOf ty 147 = 1 := rfl
theorem ty148 : ty 148 = some ⟨.struct [(0, 134), (1, 135), (2, 147), (3, 147)], 4, 16, .agg [.int .i32 0, .int .i32 0, .int .i32 0, .int .i32 0]⟩ := rfl
theorem td148 : tdOf ty 148 = .struct [(0, 134), (1, 135), (2, 147), (3, 147)] := rfl
theorem sz148 : szOf ty 148 = 4 := rfl
theorem ty149 : ty 149 = some ⟨.struct [(0, 134), (1, 135), (2, 147), (3, 147)], 4, 16, .agg [.int .i32 0, .int .i32 0, .int .i32 0, .int .i32 0]⟩ := rfl
theorem td149 : tdOf ty 149 = .struct [(0, 134), (1, 135), (2, 147), (3, 147)] := rfl
theorem sz149 : szOf ty 149 = 4 := rfl
theorem ty150 : ty 150 = some ⟨.ptr 30, 1, 8, .nilp⟩ := rfl
theorem td150 : tdOf ty 150 = .ptr 30 := rfl
theorem sz150 : szOf ty 150 = 1 := rfl
theorem ok1 : TiOk Tryd.prog 1 ⟨.func, 1, 8, .nilf⟩ := tiOk_mk (.nilFunc) ⟨_, _, _, Tryd.underlying1⟩ (by kernel_rfl) rfl rfl rfl (by simp [Value.cells, Value.oneCell'])
theorem ok2 : TiOk Tryd.prog 2 ⟨.int .i64, 1, 8, .int .i64 0⟩ := tiOk_mk (.int .i64 0) Tryd.underlying2 (by kernel_rfl) rfl rfl rfl (by simp [Value.cells, Value.oneCell'])
theorem ok3 : TiOk Tryd.prog 3 ⟨.int .i64, 1, 8, .int .i64 0⟩ := tiOk_mk (.int .i64 0) Tryd.underlying3 (by kernel_rfl) rfl rfl rfl (by simp [Value.cells, Value.oneCell'])
theorem ok4 : TiOk Tryd.prog 4 ⟨.bool, 1, 1, .bool false⟩ := tiOk_mk (.bool false) Tryd.underlying4 (by kernel_rfl) rfl rfl rfl (by simp [Value.cells, Value.oneCell'])
theorem ok5 : TiOk Tryd.prog 5 ⟨.int .u8, 1, 1, .int .u8 0⟩ := tiOk_mk (.int .u8 0) Tryd.underlying5 (by kernel_rfl) rfl rfl rfl (by simp [Value.cells, Value.oneCell'])
theorem ok6 : TiOk Tryd.prog 6 ⟨.int .u8, 1, 1, .int .u8 0⟩ := tiOk_mk (.int .u8 0) Tryd.underlying6 (by kernel_rfl) rfl rfl rfl (by simp [Value.cells, Value.oneCell'])
theorem ok7 : TiOk Tryd.prog 7 ⟨.struct [(0, 2), (1, 3), (2, 4), (3, 6)], 4, 24, .agg [.int .i64 0, .int .i64 0, .bool false, .int .u8 0]⟩ := tiOk_mk (.agg #[.int .i64 0, .int .i64 0, .bool false, .int .u8 0]) ⟨_, Tryd.underlying7, rfl⟩ (by kernel_rfl) rfl rfl rfl (by simp [Value.cells, Value.oneCell'])
theorem ok8 : TiOk Tryd.prog 8 ⟨.struct [(0, 2), (1, 3), (2, 4), (3, 6)], 4, 24, .agg [.int .i64 0, .int .i64 0, .bool false, .int .u8 0]⟩ := tiOk_mk (.agg #[.int .i64 0, .int .i64 0, .bool false, .int .u8 0]) ⟨_, Tryd.underlying8, rfl⟩ (by kernel_rfl) rfl rfl rfl (by simp [Value.cells, Value.oneCell'])
theorem ok9 : TiOk Tryd.prog 9 ⟨.str, 1, 16, .str ⟨#[]⟩⟩ := tiOk_mk (.string ⟨#[]⟩) Tryd.underlying9 (by kernel_rfl) rfl rfl rfl (by simp [Value.cells, Value.oneCell'])
theorem ok10 : TiOk Tryd.prog 10 ⟨.str, 1, 16, .str ⟨#[]⟩⟩ := tiOk_mk (.string ⟨#[]⟩) Tryd.underlying10 (by kernel_rfl) rfl rfl rfl (by simp [Value.cells, Value.oneCell'])
theorem ok11 : TiOk Tryd.prog 11 ⟨.str, 1, 16, .str ⟨#[]⟩⟩ := tiOk_mk (.string ⟨#[]⟩) Tryd.underlying11 (by kernel_rfl) rfl rfl rfl (by simp [Value.cells, Value.oneCell'])
theorem ok12 : TiOk Tryd.prog 12 ⟨.int .u64, 1, 8, .int .u64 0⟩ := tiOk_mk (.int .u64 0) Tryd.underlying12 (by kernel_rfl) rfl rfl rfl (by simp [Value.cells, Value.oneCell'])
theorem ok13 : TiOk Tryd.prog 13 ⟨.struct [(0, 9), (1, 12)], 2, 24, .agg [.str ⟨#[]⟩, .int .u64 0]⟩ := tiOk_mk (.agg #[.string ⟨#[]⟩, .int .u64 0]) ⟨_, Tryd.underlying13, rfl⟩ (by kernel_rfl) rfl rfl rfl (by simp [Value.cells, Value.oneCell'])
theorem ok14 : TiOk Tryd.prog 14 ⟨.struct [(0, 9), (1, 12)], 2, 24, .agg [.str ⟨#[]⟩, .int .u64 0]⟩ := tiOk_mk (.agg #[.string ⟨#[]⟩, .int .u64 0]) ⟨_, Tryd.underlying14, rfl⟩ (by kernel_rfl) rfl rfl rfl (by simp [Value.cells, Value.oneCell'])
theorem ok15 : TiOk Tryd.prog 15 ⟨.ptr 126, 1, 8, .nilp⟩ := tiOk_mk (.pointer none) Tryd.underlying15 (by kernel_rfl) rfl rfl rfl (by simp [Value.cells, Value.oneCell'])
theorem ok16 : TiOk Tryd.prog 16 ⟨.ptr 129, 1, 8, .nilp⟩ := tiOk_mk (.pointer none) Tryd.underlying16 (by kernel_rfl) rfl rfl rfl (by simp [Value.cells, Value.oneCell'])
theorem ok17 : TiOk Tryd.prog 17 ⟨.ptr 137, 1, 8, .nilp⟩ := tiOk_mk (.pointer none) Tryd.underlying17 (by kernel_rfl) rfl rfl rfl (by simp [Value.cells, Value.oneCell'])
theorem ok18 : TiOk Tryd.prog 18 ⟨.struct [(0, 17)], 1, 8, .agg [.nilp]⟩ := tiOk_mk (.agg #[.pointer none]) ⟨_, Tryd.underlying18, rfl⟩ (by kernel_rfl) rfl rfl rfl (by simp [Value.cells, Value.oneCell'])
theorem ok19 : TiOk Tryd.prog 19 ⟨.struct [(0, 17)], 1, 8, .agg [.nilp]⟩ := tiOk_mk (.agg #[.pointer none]) ⟨_, Tryd.underlying19, rfl⟩ (by kernel_rfl) rfl rfl rfl (by simp [Value.cells, Value.oneCell'])
theorem ok20 : TiOk Tryd.prog 20 ⟨.iface, 1, 16, .nili⟩ := tiOk_mk (.nilIface) ⟨_, Tryd.underlying20⟩ (by kernel_rfl) rfl rfl rfl (by simp [Value.cells, Value.oneCell'])
theorem ok21 : TiOk Tryd.prog 21 ⟨.int .i32, 1, 4, .int .i32 0⟩ := tiOk_mk (.int .i32 0) Tryd.underlying21 (by kernel_rfl) rfl rfl rfl (by simp [Value.cells, Value.oneCell'])
theorem ok22 : TiOk Tryd.prog 22 ⟨.slice 5, 1, 24, .nils⟩ := tiOk_mk (.slice none 0 0) Tryd.underlying22 (by kernel_rfl) rfl rfl rfl (by simp [Value.cells, Value.oneCell'])
theorem ok23 : TiOk Tryd.prog 23 ⟨.struct [(0, 9), (1, 3), (2, 3), (3, 3), (4, 22)], 5, 64, .agg [.str ⟨#[]⟩, .int .i64 0, .int .i64 0, .int .i64 0, .nils]⟩ := tiOk_mk (.agg #[.string ⟨#[]⟩, .int .i64 0, .int .i64 0, .int .i64 0, .slice none 0 0]) ⟨_, Tryd.underlying23, rfl⟩ (by kernel_rfl) rfl rfl rfl (by simp [Value.cells, Value.oneCell'])
theorem ok24 : TiOk Tryd.prog 24 ⟨.struct [(0, 9), (1, 3), (2, 3), (3, 3), (4, 22)], 5, 64, .agg [.str ⟨#[]⟩, .int .i64 0, .int .i64 0, .int .i64 0, .nils]⟩ := tiOk_mk (.agg #[.string ⟨#[]⟩, .int .i64 0, .int .i64 0, .int .i64 0, .slice none 0 0]) ⟨_, Tryd.underlying24, rfl⟩ (by kernel_rfl) rfl rfl rfl (by simp [Value.cells, Value.oneCell'])
theorem ok25 : TiOk Tryd.prog 25 ⟨.struct [(0, 3), (1, 3), (2, 3), (3, 3), (4, 3), (5, 24), (10, 4)], 11, 112, .agg [.int .i64 0, .int .i64 0, .int .i64 0, .int .i64 0, .int .i64 0, .str ⟨#[]⟩, .int .i64 0, .int .i64 0, .int .i64 0, .nils, .bool false]⟩ := tiOk_mk (.agg #[.int .i64 0, .int .i64 0, .int .i64 0, .int .i64 0, .int .i64 0, .string ⟨#[]⟩, .int .i64 0, .int .i64 0, .int .i64 0, .slice none 0 0, .bool false]) ⟨_, Tryd.underlying25, rfl⟩ (by kernel_rfl) rfl rfl rfl (by simp [Value.cells, Value.oneCell'])
theorem ok26 : TiOk Tryd.prog 26 ⟨.struct [(0, 3), (1, 3), (2, 3), (3, 3), (4, 3), (5, 24), (10, 4)], 11, 112, .agg [.int .i64 0, .int .i64 0, .int .i64 0, .int .i64 0, .int .i64 0, .str ⟨#[]⟩, .int .i64 0, .int .i64 0, .int .i64 0, .nils, .bool false]⟩ := tiOk_mk (.agg #[.int .i64 0, .int .i64 0, .int .i64 0, .int .i64 0, .int .i64 0, .string ⟨#[]⟩, .int .i64 0, .int .i64 0, .int .i64 0, .slice none 0 0, .bool false]) ⟨_, Tryd.underlying26, rfl⟩ (by kernel_rfl) rfl rfl rfl (by simp [Value.cells, Value.oneCell'])
theorem ok27 : TiOk Tryd.prog 27 ⟨.func, 1, 8, .nilf⟩ := tiOk_mk (.nilFunc) ⟨_, _, _, Tryd.underlying27⟩ (by kernel_rfl) rfl rfl rfl (by simp [Value.cells, Value.oneCell'])
theorem ok28 : TiOk Tryd.prog 28 ⟨.func, 1, 8, .nilf⟩ := tiOk_mk (.nilFunc) ⟨_, _, _, Tryd.underlying28⟩ (by kernel_rfl) rfl rfl rfl (by simp [Value.cells, Value.oneCell'])
theorem ok29 : TiOk Tryd.prog 29 ⟨.iface, 1, 16, .nili⟩ := tiOk_mk (.nilIface) ⟨_, Tryd.underlying29⟩ (by kernel_rfl) rfl rfl rfl (by simp [Value.cells, Value.oneCell'])
theorem ok30 : TiOk Tryd.prog 30 ⟨.iface, 1, 16, .nili⟩ := tiOk_mk (.nilIface) ⟨_, Tryd.underlying30⟩ (by kernel_rfl) rfl rfl rfl (by simp [Value.cells, Value.oneCell'])
theorem ok32 : TiOk Tryd.prog 32 ⟨.func, 1, 8, .nilf⟩ := tiOk_mk (.nilFunc) ⟨_, _, _, Tryd.underlying32⟩ (by kernel_rfl) rfl rfl rfl (by simp [Value.cells, Value.oneCell'])
theorem ok33 : TiOk Tryd.prog 33 ⟨.int .i64, 1, 8, .int .i64 0⟩ := tiOk_mk (.int .i64 0) Tryd.underlying33 (by kernel_rfl) rfl rfl rfl (by simp [Value.cells, Value.oneCell'])
theorem ok35 : TiOk Tryd.prog 35 ⟨.func, 1, 8, .nilf⟩ := tiOk_mk (.nilFunc) ⟨_, _, _, Tryd.underlying35⟩ (by kernel_rfl) rfl rfl rfl (by simp [Value.cells, Value.oneCell'])
theorem ok36 : TiOk Tryd.prog 36 ⟨.func, 1, 8, .nilf⟩ := tiOk_mk (.nilFunc) ⟨_, _, _, Tryd.underlying36⟩ (by kernel_rfl) rfl rfl rfl (by simp [Value.cells, Value.oneCell'])
theorem ok37 : TiOk Tryd.prog 37 ⟨.func, 1, 8, .nilf⟩ := tiOk_mk (.nilFunc) ⟨_, _, _, Tryd.underlying37⟩ (by kernel_rfl) rfl rfl rfl (by simp [Value.cells, Value.oneCell'])
theorem ok38 : TiOk Tryd.prog 38 ⟨.func, 1, 8, .nilf⟩ := tiOk_mk (.nilFunc) ⟨_, _, _, Tryd.underlying38⟩ (by kernel_rfl) rfl rfl rfl (by simp [Value.cells, Value.oneCell'])
theorem ok39 : TiOk Tryd.prog 39 ⟨.func, 1, 8, .nilf⟩ := tiOk_mk (.nilFunc) ⟨_, _, _, Tryd.underlying39⟩ (by kernel_rfl) rfl rfl rfl (by simp [Value.cells, Value.oneCell'])
theorem ok40 : TiOk Tryd.prog 40 ⟨.func, 1, 8, .nilf⟩ := tiOk_mk (.nilFunc) ⟨_, _, _, Tryd.underlying40⟩ (by kernel_rfl) rfl rfl rfl (by simp [Value.cells, Value.oneCell'])
theorem ok41 : TiOk Tryd.prog 41 ⟨.func, 1, 8, .nilf⟩ := tiOk_mk (.nilFunc) ⟨_, _, _, Tryd.underlying41⟩ (by kernel_rfl) rfl rfl rfl (by simp [Value.cells, Value.oneCell'])
theorem ok43 : TiOk Tryd.prog 43 ⟨.func, 1, 8, .nilf⟩ := tiOk_mk (.nilFunc) ⟨_, _, _, Tryd.underlying43⟩ (by kernel_rfl) rfl rfl rfl (by simp [Value.cells, Value.oneCell'])
theorem ok45 : TiOk Tryd.prog 45 ⟨.func, 1, 8, .nilf⟩ := tiOk_mk (.nilFunc) ⟨_, _, _, Tryd.underlying45⟩ (by kernel_rfl) rfl rfl rfl (by simp [Value.cells, Value.oneCell'])
theorem ok46 : TiOk Tryd.prog 46 ⟨.func, 1, 8, .nilf⟩ := tiOk_mk (.nilFunc) ⟨_, _, _, Tryd.underlying46⟩ (by kernel_rfl) rfl rfl rfl (by simp [Value.cells, Value.oneCell'])
theorem ok47 : TiOk Tryd.prog 47 ⟨.func, 1, 8, .nilf⟩ := tiOk_mk (.nilFunc) ⟨_, _, _, Tryd.underlying47⟩ (by kernel_rfl) rfl rfl rfl (by simp [Value.cells, Value.oneCell'])
theorem ok48 : TiOk Tryd.prog 48 ⟨.int .u16, 1, 2, .int .u16 0⟩ := tiOk_mk (.int .u16 0) Tryd.underlying48 (by kernel_rfl) rfl rfl rfl (by simp [Value.cells, Value.oneCell'])
theorem ok49 : TiOk Tryd.prog 49 ⟨.int .u32, 1, 4, .int .u32 0⟩ := tiOk_mk (.int .u32 0) Tryd.underlying49 (by kernel_rfl) rfl rfl rfl (by simp [Value.cells, Value.oneCell'])
theorem ok50 : TiOk Tryd.prog 50 ⟨.func, 1, 8, .nilf⟩ := tiOk_mk (.nilFunc) ⟨_, _, _, Tryd.underlying50⟩ (by kernel_rfl) rfl rfl rfl (by simp [Value.cells, Value.oneCell'])
theorem ok51 : TiOk Tryd.prog 51 ⟨.func, 1, 8, .nilf⟩ := tiOk_mk (.nilFunc) ⟨_, _, _, Tryd.underlying51⟩ (by kernel_rfl) rfl rfl rfl (by simp [Value.cells, Value.oneCell'])
theorem ok52 : TiOk Tryd.prog 52 ⟨.slice 24, 1, 24, .nils⟩ := tiOk_mk (.slice none 0 0) Tryd.underlying52 (by kernel_rfl) rfl rfl rfl (by simp [Value.cells, Value.oneCell'])
theorem ok53 : TiOk Tryd.prog 53 ⟨.func, 1, 8, .nilf⟩ := tiOk_mk (.nilFunc) ⟨_, _, _, Tryd.underlying53⟩ (by kernel_rfl) rfl rfl rfl (by simp [Value.cells, Value.oneCell'])
theorem ok54 : TiOk Tryd.prog 54 ⟨.func, 1, 8, .nilf⟩ := tiOk_mk (.nilFunc) ⟨_, _, _, Tryd.underlying54⟩ (by kernel_rfl) rfl rfl rfl (by simp [Value.cells, Value.oneCell'])
theorem ok55 : TiOk Tryd.prog 55 ⟨.func, 1, 8, .nilf⟩ := tiOk_mk (.nilFunc) ⟨_, _, _, Tryd.underlying55⟩ (by kernel_rfl) rfl rfl rfl (by simp [Value.cells, Value.oneCell'])
theorem ok56 : TiOk Tryd.prog 56 ⟨.func, 1, 8, .nilf⟩ := tiOk_mk (.nilFunc) ⟨_, _, _, Tryd.underlying56⟩ (by kernel_rfl) rfl rfl rfl (by simp [Value.cells, Value.oneCell'])
theorem ok57 : TiOk Tryd.prog 57 ⟨.func, 1, 8, .nilf⟩ := tiOk_mk (.nilFunc) ⟨_, _, _, Tryd.underlying57⟩ (by kernel_rfl) rfl rfl rfl (by simp [Value.cells, Value.oneCell'])
theorem ok58 : TiOk Tryd.prog 58 ⟨.slice 3, 1, 24, .nils⟩ := tiOk_mk (.slice none 0 0) Tryd.underlying58 (by kernel_rfl) rfl rfl rfl (by simp [Value.cells, Value.oneCell'])
theorem ok59 : TiOk Tryd.prog 59 ⟨.func, 1, 8, .nilf⟩ := tiOk_mk (.nilFunc) ⟨_, _, _, Tryd.underlying59⟩ (by kernel_rfl) rfl rfl rfl (by simp [Value.cells, Value.oneCell'])
theorem ok60 : TiOk Tryd.prog 60 ⟨.ptr 64, 1, 8, .nilp⟩ := tiOk_mk (.pointer none) Tryd.underlying60 (by kernel_rfl) rfl rfl rfl (by simp [Value.cells, Value.oneCell'])
theorem ok61 : TiOk Tryd.prog 61 ⟨.func, 1, 8, .nilf⟩ := tiOk_mk (.nilFunc) ⟨_, _, _, Tryd.underlying61⟩ (by kernel_rfl) rfl rfl rfl (by simp [Value.cells, Value.oneCell'])
theorem ok62 : TiOk Tryd.prog 62 ⟨.ptr 60, 1, 8, .nilp⟩ := tiOk_mk (.pointer none) Tryd.underlying62 (by kernel_rfl) rfl rfl rfl (by simp [Value.cells, Value.oneCell'])
theorem ok63 : TiOk Tryd.prog 63 ⟨.struct [(0, 9), (1, 3), (2, 33), (3, 30)], 4, 48, .agg [.str ⟨#[]⟩, .int .i64 0, .int .i64 0, .nili]⟩ := tiOk_mk (.agg #[.string ⟨#[]⟩, .int .i64 0, .int .i64 0, .nilIface]) ⟨_, Tryd.underlying63, rfl⟩ (by kernel_rfl) rfl rfl rfl (by simp [Value.cells, Value.oneCell'])
theorem ok64 : TiOk Tryd.prog 64 ⟨.struct [(0, 9), (1, 3), (2, 33), (3, 30)], 4, 48, .agg [.str ⟨#[]⟩, .int .i64 0, .int .i64 0, .nili]⟩ := tiOk_mk (.agg #[.string ⟨#[]⟩, .int .i64 0, .int .i64 0, .nilIface]) ⟨_, Tryd.underlying64, rfl⟩ (by kernel_rfl) rfl rfl rfl (by simp [Value.cells, Value.oneCell'])
theorem ok65 : TiOk Tryd.prog 65 ⟨.func, 1, 8, .nilf⟩ := tiOk_mk (.nilFunc) ⟨_, _, _, Tryd.underlying65⟩ (by kernel_rfl) rfl rfl rfl (by simp [Value.cells, Value.oneCell'])
theorem ok66 : TiOk Tryd.prog 66 ⟨.func, 1, 8, .nilf⟩ := tiOk_mk (.nilFunc) ⟨_, _, _, Tryd.underlying66⟩ (by kernel_rfl) rfl rfl rfl (by simp [Value.cells, Value.oneCell'])
theorem ok67 : TiOk Tryd.prog 67 ⟨.func, 1, 8, .nilf⟩ := tiOk_mk (.nilFunc) ⟨_, _, _, Tryd.underlying67⟩ (by kernel_rfl) rfl rfl rfl (by simp [Value.cells, Value.oneCell'])
theorem ok68 : TiOk Tryd.prog 68 ⟨.func, 1, 8, .nilf⟩ := tiOk_mk (.nilFunc) ⟨_, _, _, Tryd.underlying68⟩ (by kernel_rfl) rfl rfl rfl (by simp [Value.cells, Value.oneCell'])
theorem ok69 : TiOk Tryd.prog 69 ⟨.func, 1, 8, .nilf⟩ := tiOk_mk (.nilFunc) ⟨_, _, _, Tryd.underlying69⟩ (by kernel_rfl) rfl rfl rfl (by simp [Value.cells, Value.oneCell'])
theorem ok70 : TiOk Tryd.prog 70 ⟨.func, 1, 8, .nilf⟩ := tiOk_mk (.nilFunc) ⟨_, _, _, Tryd.underlying70⟩ (by kernel_rfl) rfl rfl rfl (by simp [Value.cells, Value.oneCell'])
theorem ok71 : TiOk Tryd.prog 71 ⟨.func, 1, 8, .nilf⟩ := tiOk_mk (.nilFunc) ⟨_, _, _, Tryd.underlying71⟩ (by kernel_rfl) rfl rfl rfl (by simp [Value.cells, Value.oneCell'])
theorem ok72 : TiOk Tryd.prog 72 ⟨.ptr 102, 1, 8, .nilp⟩ := tiOk_mk (.pointer none) Tryd.underlying72 (by kernel_rfl) rfl rfl rfl (by simp [Value.cells, Value.oneCell'])
theorem ok73 : TiOk Tryd.prog 73 ⟨.func, 1, 8, .nilf⟩ := tiOk_mk (.nilFunc) ⟨_, _, _, Tryd.underlying73⟩ (by kernel_rfl) rfl rfl rfl (by simp [Value.cells, Value.oneCell'])
theorem ok74 : TiOk Tryd.prog 74 ⟨.func, 1, 8, .nilf⟩ := tiOk_mk (.nilFunc) ⟨_, _, _, Tryd.underlying74⟩ (by kernel_rfl) rfl rfl rfl (by simp [Value.cells, Value.oneCell'])
theorem ok75 : TiOk Tryd.prog 75 ⟨.func, 1, 8, .nilf⟩ := tiOk_mk (.nilFunc) ⟨_, _, _, Tryd.underlying75⟩ (by kernel_rfl) rfl rfl rfl (by simp [Value.cells, Value.oneCell'])
theorem ok76 : TiOk Tryd.prog 76 ⟨.func, 1, 8, .nilf⟩ := tiOk_mk (.nilFunc) ⟨_, _, _, Tryd.underlying76⟩ (by kernel_rfl) rfl rfl rfl (by simp [Value.cells, Value.oneCell'])
theorem ok77 : TiOk Tryd.prog 77 ⟨.func, 1, 8, .nilf⟩ := tiOk_mk (.nilFunc) ⟨_, _, _, Tryd.underlying77⟩ (by kernel_rfl) rfl rfl rfl (by simp [Value.cells, Value.oneCell'])
theorem ok78 : TiOk Tryd.prog 78 ⟨.struct [(0, 22), (1, 3), (2, 33)], 3, 40, .agg [.nils, .int .i64 0, .int .i64 0]⟩ := tiOk_mk (.agg #[.slice none 0 0, .int .i64 0, .int .i64 0]) ⟨_, Tryd.underlying78, rfl⟩ (by kernel_rfl) rfl rfl rfl (by simp [Value.cells, Value.oneCell'])
theorem ok79 : TiOk Tryd.prog 79 ⟨.struct [(0, 22), (1, 3), (2, 33)], 3, 40, .agg [.nils, .int .i64 0, .int .i64 0]⟩ := tiOk_mk (.agg #[.slice none 0 0, .int .i64 0, .int .i64 0]) ⟨_, Tryd.underlying79, rfl⟩ (by kernel_rfl) rfl rfl rfl (by simp [Value.cells, Value.oneCell'])
theorem ok81 : TiOk Tryd.prog 81 ⟨.func, 1, 8, .nilf⟩ := tiOk_mk (.nilFunc) ⟨_, _, _, Tryd.underlying81⟩ (by kernel_rfl) rfl rfl rfl (by simp [Value.cells, Value.oneCell'])
theorem ok83 : TiOk Tryd.prog 83 ⟨.func, 1, 8, .nilf⟩ := tiOk_mk (.nilFunc) ⟨_, _, _, Tryd.underlying83⟩ (by kernel_rfl) rfl rfl rfl (by simp [Value.cells, Value.oneCell'])
theorem ok84 : TiOk Tryd.prog 84 ⟨.func, 1, 8, .nilf⟩ := tiOk_mk (.nilFunc) ⟨_, _, _, Tryd.underlying84⟩ (by kernel_rfl) rfl rfl rfl (by simp [Value.cells, Value.oneCell'])
theorem ok85 : TiOk Tryd.prog 85 ⟨.arr 4 5, 4, 4, .agg [.int .u8 0, .int .u8 0, .int .u8 0, .int .u8 0]⟩ := tiOk_mk (.agg #[.int .u8 0, .int .u8 0, .int .u8 0, .int .u8 0]) Tryd.underlying85 (by kernel_rfl) rfl rfl rfl (by simp [Value.cells, Value.oneCell'])
theorem ok86 : TiOk Tryd.prog 86 ⟨.func, 1, 8, .nilf⟩ := tiOk_mk (.nilFunc) ⟨_, _, _, Tryd.underlying86⟩ (by kernel_rfl) rfl rfl rfl (by simp [Value.cells, Value.oneCell'])
theorem ok88 : TiOk Tryd.prog 88 ⟨.int .u64, 1, 8, .int .u64 0⟩ := tiOk_mk (.int .u64 0) Tryd.underlying88 (by kernel_rfl) rfl rfl rfl (by simp [Value.cells, Value.oneCell'])
theorem ok91 : TiOk Tryd.prog 91 ⟨.func, 1, 8, .nilf⟩ := tiOk_mk (.nilFunc) ⟨_, _, _, Tryd.underlying91⟩ (by kernel_rfl) rfl rfl rfl (by simp [Value.cells, Value.oneCell'])
theorem ok92 : TiOk Tryd.prog 92 ⟨.iface, 1, 16, .nili⟩ := tiOk_mk (.nilIface) ⟨_, Tryd.underlying92⟩ (by kernel_rfl) rfl rfl rfl (by simp [Value.cells, Value.oneCell'])
theorem ok93 : TiOk Tryd.prog 93 ⟨.iface, 1, 16, .nili⟩ := tiOk_mk (.nilIface) ⟨_, Tryd.underlying93⟩ (by kernel_rfl) rfl rfl rfl (by simp [Value.cells, Value.oneCell'])
theorem ok94 : TiOk Tryd.prog 94 ⟨.func, 1, 8, .nilf⟩ := tiOk_mk (.nilFunc) ⟨_, _, _, Tryd.underlying94⟩ (by kernel_rfl) rfl rfl rfl (by simp [Value.cells, Value.oneCell'])
theorem ok95 : TiOk Tryd.prog 95 ⟨.int .u8, 1, 1, .int .u8 0⟩ := tiOk_mk (.int .u8 0) Tryd.underlying95 (by kernel_rfl) rfl rfl rfl (by simp [Value.cells, Value.oneCell'])
theorem ok96 : TiOk Tryd.prog 96 ⟨.func, 1, 8, .nilf⟩ := tiOk_mk (.nilFunc) ⟨_, _, _, Tryd.underlying96⟩ (by kernel_rfl) rfl rfl rfl (by simp [Value.cells, Value.oneCell'])
theorem ok97 : TiOk Tryd.prog 97 ⟨.func, 1, 8, .nilf⟩ := tiOk_mk (.nilFunc) ⟨_, _, _, Tryd.underlying97⟩ (by kernel_rfl) rfl rfl rfl (by simp [Value.cells, Value.oneCell'])
theorem ok98 : TiOk Tryd.prog 98 ⟨.func, 1, 8, .nilf⟩ := tiOk_mk (.nilFunc) ⟨_, _, _, Tryd.underlying98⟩ (by kernel_rfl) rfl rfl rfl (by simp [Value.cells, Value.oneCell'])
theorem ok99 : TiOk Tryd.prog 99 ⟨.func, 1, 8, .nilf⟩ := tiOk_mk (.nilFunc) ⟨_, _, _, Tryd.underlying99⟩ (by kernel_rfl) rfl rfl rfl (by simp [Value.cells, Value.oneCell'])
theorem ok100 : TiOk Tryd.prog 100 ⟨.func, 1, 8, .nilf⟩ := tiOk_mk (.nilFunc) ⟨_, _, _, Tryd.underlying100⟩ (by kernel_rfl) rfl rfl rfl (by simp [Value.cells, Value.oneCell'])
theorem ok101 : TiOk Tryd.prog 101 ⟨.struct [(0, 22), (1, 3), (2, 33)], 3, 40, .agg [.nils, .int .i64 0, .int .i64 0]⟩ := tiOk_mk (.agg #[.slice none 0 0, .int .i64 0, .int .i64 0]) ⟨_, Tryd.underlying101, rfl⟩ (by kernel_rfl) rfl rfl rfl (by simp [Value.cells, Value.oneCell'])
theorem ok102 : TiOk Tryd.prog 102 ⟨.struct [(0, 22), (1, 3), (2, 33)], 3, 40, .agg [.nils, .int .i64 0, .int .i64 0]⟩ := tiOk_mk (.agg #[.slice none 0 0, .int .i64 0, .int .i64 0]) ⟨_, Tryd.underlying102, rfl⟩ (by kernel_rfl) rfl rfl rfl (by simp [Value.cells, Value.oneCell'])
theorem ok103 : TiOk Tryd.prog 103 ⟨.func, 1, 8, .nilf⟩ := tiOk_mk (.nilFunc) ⟨_, _, _, Tryd.underlying103⟩ (by kernel_rfl) rfl rfl rfl (by simp [Value.cells, Value.oneCell'])
theorem ok104 : TiOk Tryd.prog 104 ⟨.int .u64, 1, 8, .int .u64 0⟩ := tiOk_mk (.int .u64 0) Tryd.underlying104 (by kernel_rfl) rfl rfl rfl (by simp [Value.cells, Value.oneCell'])
theorem ok105 : TiOk Tryd.prog 105 ⟨.func, 1, 8, .nilf⟩ := tiOk_mk (.nilFunc) ⟨_, _, _, Tryd.underlying105⟩ (by kernel_rfl) rfl rfl rfl (by simp [Value.cells, Value.oneCell'])
theorem ok107 : TiOk Tryd.prog 107 ⟨.func, 1, 8, .nilf⟩ := tiOk_mk (.nilFunc) ⟨_, _, _, Tryd.underlying107⟩ (by kernel_rfl) rfl rfl rfl (by simp [Value.cells, Value.oneCell'])
theorem ok108 : TiOk Tryd.prog 108 ⟨.func, 1, 8, .nilf⟩ := tiOk_mk (.nilFunc) ⟨_, _, _, Tryd.underlying108⟩ (by kernel_rfl) rfl rfl rfl (by simp [Value.cells, Value.oneCell'])
theorem ok109 : TiOk Tryd.prog 109 ⟨.struct [(0, 17)], 1, 8, .agg [.nilp]⟩ := tiOk_mk (.agg #[.pointer none]) ⟨_, Tryd.underlying109, rfl⟩ (by kernel_rfl) rfl rfl rfl (by simp [Value.cells, Value.oneCell'])
theorem ok110 : TiOk Tryd.prog 110 ⟨.struct [(0, 17)], 1, 8, .agg [.nilp]⟩ := tiOk_mk (.agg #[.pointer none]) ⟨_, Tryd.underlying110, rfl⟩ (by kernel_rfl) rfl rfl rfl (by simp [Value.cells, Value.oneCell'])
theorem ok111 : TiOk Tryd.prog 111 ⟨.ptr 141, 1, 8, .nilp⟩ := tiOk_mk (.pointer none) Tryd.underlying111 (by kernel_rfl) rfl rfl rfl (by simp [Value.cells, Value.oneCell'])
theorem ok112 : TiOk Tryd.prog 112 ⟨.func, 1, 8, .nilf⟩ := tiOk_mk (.nilFunc) ⟨_, _, _, Tryd.underlying112⟩ (by kernel_rfl) rfl rfl rfl (by simp [Value.cells, Value.oneCell'])
theorem ok113 : TiOk Tryd.prog 113 ⟨.func, 1, 8, .nilf⟩ := tiOk_mk (.nilFunc) ⟨_, _, _, Tryd.underlying113⟩ (by kernel_rfl) rfl rfl rfl (by simp [Value.cells, Value.oneCell'])
theorem ok114 : TiOk Tryd.prog 114 ⟨.func, 1, 8, .nilf⟩ := tiOk_mk (.nilFunc) ⟨_, _, _, Tryd.underlying114⟩ (by kernel_rfl) rfl rfl rfl (by simp [Value.cells, Value.oneCell'])
theorem ok115 : TiOk Tryd.prog 115 ⟨.iface, 1, 16, .nili⟩ := tiOk_mk (.nilIface) ⟨_, Tryd.underlying115⟩ (by kernel_rfl) rfl rfl rfl (by simp [Value.cells, Value.oneCell'])
theorem ok117 : TiOk Tryd.prog 117 ⟨.func, 1, 8, .nilf⟩ := tiOk_mk (.nilFunc) ⟨_, _, _, Tryd.underlying117⟩ (by kernel_rfl) rfl rfl rfl (by simp [Value.cells, Value.oneCell'])
theorem ok118 : TiOk Tryd.prog 118 ⟨.iface, 1, 16, .nili⟩ := tiOk_mk (.nilIface) ⟨_, Tryd.underlying118⟩ (by kernel_rfl) rfl rfl rfl (by simp [Value.cells, Value.oneCell'])
theorem ok119 : TiOk Tryd.prog 119 ⟨.func, 1, 8, .nilf⟩ := tiOk_mk (.nilFunc) ⟨_, _, _, Tryd.underlying119⟩ (by kernel_rfl) rfl rfl rfl (by simp [Value.cells, Value.oneCell'])
theorem ok120 : TiOk Tryd.prog 120 ⟨.iface, 1, 16, .nili⟩ := tiOk_mk (.nilIface) ⟨_, Tryd.underlying120⟩ (by kernel_rfl) rfl rfl rfl (by simp [Value.cells, Value.oneCell'])
theorem ok121 : TiOk Tryd.prog 121 ⟨.slice 30, 1, 24, .nils⟩ := tiOk_mk (.slice none 0 0) Tryd.underlying121 (by kernel_rfl) rfl rfl rfl (by simp [Value.cells, Value.oneCell'])
theorem ok122 : TiOk Tryd.prog 122 ⟨.func, 1, 8, .nilf⟩ := tiOk_mk (.nilFunc) ⟨_, _, _, Tryd.underlying122⟩ (by kernel_rfl) rfl rfl rfl (by simp [Value.cells, Value.oneCell'])
theorem ok123 : TiOk Tryd.prog 123 ⟨.func, 1, 8, .nilf⟩ := tiOk_mk (.nilFunc) ⟨_, _, _, Tryd.underlying123⟩ (by kernel_rfl) rfl rfl rfl (by simp [Value.cells, Value.oneCell'])
theorem ok124 : TiOk Tryd.prog 124 ⟨.func, 1, 8, .nilf⟩ := tiOk_mk (.nilFunc) ⟨_, _, _, Tryd.underlying124⟩ (by kernel_rfl) rfl rfl rfl (by simp [Value.cells, Value.oneCell'])
theorem ok125 : TiOk Tryd.prog 125 ⟨.struct [(0, 17), (1, 17), (2, 17), (3, 9)], 4, 40, .agg [.nilp, .nilp, .nilp, .str ⟨#[]⟩]⟩ := tiOk_mk (.agg #[.pointer none, .pointer none, .pointer none, .string ⟨#[]⟩]) ⟨_, Tryd.underlying125, rfl⟩ (by kernel_rfl) rfl rfl rfl (by simp [Value.cells, Value.oneCell'])
theorem ok126 : TiOk Tryd.prog 126 ⟨.struct [(0, 17), (1, 17), (2, 17), (3, 9)], 4, 40, .agg [.nilp, .nilp, .nilp, .str ⟨#[]⟩]⟩ := tiOk_mk (.agg #[.pointer none, .pointer none, .pointer none, .string ⟨#[]⟩]) ⟨_, Tryd.underlying126, rfl⟩ (by kernel_rfl) rfl rfl rfl (by simp [Value.cells, Value.oneCell'])
theorem ok130 : TiOk Tryd.prog 130 ⟨.func, 1, 8, .nilf⟩ := tiOk_mk (.nilFunc) ⟨_, _, _, Tryd.underlying130⟩ (by kernel_rfl) rfl rfl rfl (by simp [Value.cells, Value.oneCell'])
theorem ok131 : TiOk Tryd.prog 131 ⟨.int .u8, 1, 1, .int .u8 0⟩ := tiOk_mk (.int .u8 0) Tryd.underlying131 (by kernel_rfl) rfl rfl rfl (by simp [Value.cells, Value.oneCell'])
theorem ok132 : TiOk Tryd.prog 132 ⟨.func, 1, 8, .nilf⟩ := tiOk_mk (.nilFunc) ⟨_, _, _, Tryd.underlying132⟩ (by kernel_rfl) rfl rfl rfl (by simp [Value.cells, Value.oneCell'])
theorem ok133 : TiOk Tryd.prog 133 ⟨.ptr 5, 1, 8, .nilp⟩ := tiOk_mk (.pointer none) Tryd.underlying133 (by kernel_rfl) rfl rfl rfl (by simp [Value.cells, Value.oneCell'])
theorem ok134 : TiOk Tryd.prog 134 ⟨.int .i32, 1, 4, .int .i32 0⟩ := tiOk_mk (.int .i32 0) Tryd.underlying134 (by kernel_rfl) rfl rfl rfl (by simp [Value.cells, Value.oneCell'])
theorem ok135 : TiOk Tryd.prog 135 ⟨.int .i32, 1, 4, .int .i32 0⟩ := tiOk_mk (.int .i32 0) Tryd.underlying135 (by kernel_rfl) rfl rfl rfl (by simp [Value.cells, Value.oneCell'])
theorem ok136 : TiOk Tryd.prog 136 ⟨.struct [(0, 12), (1, 12), (2, 49), (3, 131), (4, 5), (5, 5), (6, 95), (7, 132), (8, 133), (9, 134), (10, 135)], 11, 48, .agg [.int .u64 0, .int .u64 0, .int .u32 0, .int .u8 0, .int .u8 0, .int .u8 0, .int .u8 0, .nilf, .nilp, .int .i32 0, .int .i32 0]⟩ := tiOk_mk (.agg #[.int .u64 0, .int .u64 0, .int .u32 0, .int .u8 0, .int .u8 0, .int .u8 0, .int .u8 0, .nilFunc, .pointer none, .int .i32 0, .int .i32 0]) ⟨_, Tryd.underlying136, rfl⟩ (by kernel_rfl) rfl rfl rfl (by simp [Value.cells, Value.oneCell'])
theorem ok137 : TiOk Tryd.prog 137 ⟨.struct [(0, 12), (1, 12), (2, 49), (3, 131), (4, 5), (5, 5), (6, 95), (7, 132), (8, 133), (9, 134), (10, 135)], 11, 48, .agg [.int .u64 0, .int .u64 0, .int .u32 0, .int .u8 0, .int .u8 0, .int .u8 0, .int .u8 0, .nilf, .nilp, .int .i32 0, .int .i32 0]⟩ := tiOk_mk (.agg #[.int .u64 0, .int .u64 0, .int .u32 0, .int .u8 0, .int .u8 0, .int .u8 0, .int .u8 0, .nilFunc, .pointer none, .int .i32 0, .int .i32 0]) ⟨_, Tryd.underlying137, rfl⟩ (by kernel_rfl) rfl rfl rfl (by simp [Value.cells, Value.oneCell'])
theorem ok138 : TiOk Tryd.prog 138 ⟨.func, 1, 8, .nilf⟩ := tiOk_mk (.nilFunc) ⟨_, _, _, Tryd.underlying138⟩ (by kernel_rfl) rfl rfl rfl (by simp [Value.cells, Value.oneCell'])
theorem ok139 : TiOk Tryd.prog 139 ⟨.func, 1, 8, .nilf⟩ := tiOk_mk (.nilFunc) ⟨_, _, _, Tryd.underlying139⟩ (by kernel_rfl) rfl rfl rfl (by simp [Value.cells, Value.oneCell'])
theorem ok140 : TiOk Tryd.prog 140 ⟨.struct [(0, 9), (1, 95)], 2, 24, .agg [.str ⟨#[]⟩, .int .u8 0]⟩ := tiOk_mk (.agg #[.string ⟨#[]⟩, .int .u8 0]) ⟨_, Tryd.underlying140, rfl⟩ (by kernel_rfl) rfl rfl rfl (by simp [Value.cells, Value.oneCell'])
theorem ok141 : TiOk Tryd.prog 141 ⟨.struct [(0, 9), (1, 95)], 2, 24, .agg [.str ⟨#[]⟩, .int .u8 0]⟩ := tiOk_mk (.agg #[.string ⟨#[]⟩, .int .u8 0]) ⟨_, Tryd.underlying141, rfl⟩ (by kernel_rfl) rfl rfl rfl (by simp [Value.cells, Value.oneCell'])
theorem ok142 : TiOk Tryd.prog 142 ⟨.ptr 145, 1, 8, .nilp⟩ := tiOk_mk (.pointer none) Tryd.underlying142 (by kernel_rfl) rfl rfl rfl (by simp [Value.cells, Value.oneCell'])
theorem ok143 : TiOk Tryd.prog 143 ⟨.func, 1, 8, .nilf⟩ := tiOk_mk (.nilFunc) ⟨_, _, _, Tryd.underlying143⟩ (by kernel_rfl) rfl rfl rfl (by simp [Value.cells, Value.oneCell'])
theorem ok144 : TiOk Tryd.prog 144 ⟨.struct [(0, 134), (1, 48), (2, 48), (3, 49), (4, 49)], 5, 16, .agg [.int .i32 0, .int .u16 0, .int .u16 0, .int .u32 0, .int .u32 0]⟩ := tiOk_mk (.agg #[.int .i32 0, .int .u16 0, .int .u16 0, .int .u32 0, .int .u32 0]) ⟨_, Tryd.underlying144, rfl⟩ (by kernel_rfl) rfl rfl rfl (by simp [Value.cells, Value.oneCell'])
theorem ok145 : TiOk Tryd.prog 145 ⟨.struct [(0, 134), (1, 48), (2, 48), (3, 49), (4, 49)], 5, 16, .agg [.int .i32 0, .int .u16 0, .int .u16 0, .int .u32 0, .int .u32 0]⟩ := tiOk_mk (.agg #[.int .i32 0, .int .u16 0, .int .u16 0, .int .u32 0, .int .u32 0]) ⟨_, Tryd.underlying145, rfl⟩ (by kernel_rfl) rfl rfl rfl (by simp [Value.cells, Value.oneCell'])
theorem ok146 : TiOk Tryd.prog 146 ⟨.slice 149, 1, 24, .nils⟩ := tiOk_mk (.slice none 0 0) Tryd.underlying146 (by kernel_rfl) rfl rfl rfl (by simp [Value.cells, Value.oneCell'])
theorem ok147 : TiOk Tryd.prog 147 ⟨.int .i32, 1, 4, .int .i32 0⟩ := tiOk_mk (.int .i32 0) Tryd.underlying147 (by kernel_rfl) rfl rfl rfl (by simp [Value.cells, Value.oneCell'])
theorem ok148 : TiOk Tryd.prog 148 ⟨.struct [(0, 134), (1, 135), (2, 147), (3, 147)], 4, 16, .agg [.int .i32 0, .int .i32 0, .int .i32 0, .int .i32 0]⟩ := tiOk_mk (.agg #[.int .i32 0, .int .i32 0, .int .i32 0, .int .i32 0]) ⟨_, Tryd.underlying148, rfl⟩ (by kernel_rfl) rfl rfl rfl (by simp [Value.cells, Value.oneCell'])
theorem ok149 : TiOk Tryd.prog 149 ⟨.struct [(0, 134), (1, 135), (2, 147), (3, 147)], 4, 16, .agg [.int .i32 0, .int .i32 0, .int .i32 0, .int .i32 0]⟩ := tiOk_mk (.agg #[.int .i32 0, .int .i32 0, .int .i32 0, .int .i32 0]) ⟨_, Tryd.underlying149, rfl⟩ (by kernel_rfl) rfl rfl rfl (by simp [Value.cells, Value.oneCell'])
theorem ok150 : TiOk Tryd.prog 150 ⟨.ptr 30, 1, 8, .nilp⟩ := tiOk_mk (.pointer none) Tryd.underlying150 (by kernel_rfl) rfl rfl rfl (by simp [Value.cells, Value.oneCell'])
theorem tk : TyOk Tryd.prog ty := by
  intro t i h
  unfold ty at h
  split at h
  · cases h; exact ok1
  · cases h; exact ok2
  · cases h; exact ok3
  · cases h; exact ok4
  · cases h; exact ok5
  · cases h; exact ok6
  · cases h; exact ok7
  · cases h; exact ok8
  · cases h; exact ok9
  · cases h; exact ok10
  · cases h; exact ok11
  · cases h; exact ok12
  · cases h; exact ok13
  · cases h; exact ok14
  · cases h; exact ok15
  · cases h; exact ok16
  · cases h; exact ok17
  · cases h; exact ok18
  · cases h; exact ok19
  · cases h; exact ok20
  · cases h; exact ok21
  · cases h; exact ok22
  · cases h; exact ok23
  · cases h; exact ok24
  · cases h; exact ok25
  · cases h; exact ok26
  · cases h; exact ok27
  · cases h; exact ok28
  · cases h; exact ok29
  · cases h; exact ok30
  · cases h; exact ok32
  · cases h; exact ok33
  · cases h; exact ok35
  · cases h; exact ok36
  · cases h; exact ok37
  · cases h; exact ok38
  · cases h; exact ok39
  · cases h; exact ok40
  · cases h; exact ok41
  · cases h; exact ok43
  · cases h; exact ok45
  · cases h; exact ok46
  · cases h; exact ok47
  · cases h; exact ok48
  · cases h; exact ok49
  · cases h; exact ok50
  · cases h; exact ok51
  · cases h; exact ok52
  · cases h; exact ok53
  · cases h; exact ok54
  · cases h; exact ok55
  · cases h; exact ok56
  · cases h; exact ok57
  · cases h; exact ok58
  · cases h; exact ok59
  · cases h; exact ok60
  · cases h; exact ok61
  · cases h; exact ok62
  · cases h; exact ok63
  · cases h; exact ok64
  · cases h; exact ok65
  · cases h; exact ok66
  · cases h; exact ok67
  · cases h; exact ok68
  · cases h; exact ok69
  · cases h; exact ok70
  · cases h; exact ok71
  · cases h; exact ok72
  · cases h; exact ok73
  · cases h; exact ok74
  · cases h; exact ok75
  · cases h; exact ok76
  · cases h; exact ok77
  · cases h; exact ok78
  · cases h; exact ok79
  · cases h; exact ok81
  · cases h; exact ok83
  · cases h; exact ok84
  · cases h; exact ok85
  · cases h; exact ok86
  · cases h; exact ok88
  · cases h; exact ok91
  · cases h; exact ok92
  · cases h; exact ok93
  · cases h; exact ok94
  · cases h; exact ok95
  · cases h; exact ok96
  · cases h; exact ok97
  · cases h; exact ok98
  · cases h; exact ok99
  · cases h; exact ok100
  · cases h; exact ok101
  · cases h; exact ok102
  · cases h; exact ok103
  · cases h; exact ok104
  · cases h; exact ok105
  · cases h; exact ok107
  · cases h; exact ok108
  · cases h; exact ok109
  · cases h; exact ok110
  · cases h; exact ok111
  · cases h; exact ok112
  · cases h; exact ok113
  · cases h; exact ok114
  · cases h; exact ok115
  · cases h; exact ok117
  · cases h; exact ok118
  · cases h; exact ok119
  · cases h; exact ok120
  · cases h; exact ok121
  · cases h; exact ok122
  · cases h; exact ok123
  · cases h; exact ok124
  · cases h; exact ok125
  · cases h; exact ok126
  · cases h; exact ok130
  · cases h; exact ok131
  · cases h; exact ok132
  · cases h; exact ok133
  · cases h; exact ok134
  · cases h; exact ok135
  · cases h; exact ok136
  · cases h; exact ok137
  · cases h; exact ok138
  · cases h; exact ok139
  · cases h; exact ok140
  · cases h; exact ok141
  · cases h; exact ok142
  · cases h; exact ok143
  · cases h; exact ok144
  · cases h; exact ok145
  · cases h; exact ok146
  · cases h; exact ok147
  · cases h; exact ok148
  · cases h; exact ok149
  · cases h; exact ok150
  · cases h
theorem mixed : Tryd.prog.follows .mixedOrders = true := by kernel_rfl
end Go.Proofs.YthkfilchighbhaaDoor
namespace Go.Proofs.YthkfilchighbhaaDoor
open Go Go.Va
set_option linter.unusedSimpArgs false
set_option linter.unusedVariables false
/-- Errors, as values: none; a fault, with what is under it. -/
inductive Err where
  | nil
  | fault (op : List (BitVec 8)) (at_ : Int) (code : Int) (under : Err)
  deriving DecidableEq
def Err.isNil : Err → Bool
  | .nil => true
  | _ => false
def eErr : Err → AV
  | .nil => .nili
  | .fault o a c u => .iface 60 (.fptr [eS o, eI a, eI c, eErr u] 0)
theorem eErr_cut (nl nt : Nat → Option Nat) : ∀ e, cutAV nl nt (eErr e) = eErr e
  | .nil => rfl
  | .fault o a c u => by simp only [eErr, cutAV, cutL, eErr_cut nl nt u, eS, eI]
theorem eErr_flat (e : Err) : flatAV (eErr e) = true := by cases e <;> rfl
theorem nsp_err (e : Err) : spcl [eErr e] = false := by cases e <;> rfl
theorem encErr : Enc ty 30 1 eErr := ⟨sz30, by decide, fun x => (by cases x <;> rfl), fun h => (by cases h), fun _ x => (by cases x <;> rfl), fun x => (by cases x <;> rfl), eErr_cut⟩
structure runtime_boundsError where
  x : Int
  y : Int
  signed : Bool
  code : BitVec 8
  deriving DecidableEq
def c_runtime_boundsError (x : runtime_boundsError) : List AV := [eI x.x, eI x.y, eB x.signed, (@eU .u8 8) x.code]
def e_runtime_boundsError (x : runtime_boundsError) : AV := .agg (c_runtime_boundsError x)
def z_runtime_boundsError : runtime_boundsError := ⟨(0 : Int), (0 : Int), false, 0#8⟩
theorem c_runtime_boundsError_cut (nl nt : Nat → Option Nat) (x : runtime_boundsError) : cutL nl nt (c_runtime_boundsError x) = c_runtime_boundsError x := by simp only [cutL, e_runtime_boundsError, c_runtime_boundsError, cutAV, (enc_i64 td2 sz2).cut nl nt, (enc_i64 td3 sz3).cut nl nt, (enc_b td4 sz4).cut nl nt, (enc_u td6 sz6).cut nl nt]
theorem pc_runtime_boundsError (x : runtime_boundsError) : purL (c_runtime_boundsError x) = true := by simp only [c_runtime_boundsError, purL, purL_append, Bool.and_self, Bool.and_true, (show purA (eI x.x) = true from (fun _ => rfl) _), (show purA (eI x.y) = true from (fun _ => rfl) _), (show purA (eB x.signed) = true from (fun _ => rfl) _), (show purA ((@eU .u8 8) x.code) = true from (fun _ => rfl) _)]
theorem pur_runtime_boundsError (x : runtime_boundsError) : purA (e_runtime_boundsError x) = true := pc_runtime_boundsError x
theorem enc7 : Enc ty 7 4 e_runtime_boundsError := ⟨sz7, by decide, fun _ => rfl, fun _ _ => rfl, fun h => (by cases h), fun _ => rfl, fun nl nt x => by simp only [e_runtime_boundsError, cutAV, c_runtime_boundsError_cut]⟩
theorem enc8 : Enc ty 8 4 e_runtime_boundsError := ⟨sz8, by decide, fun _ => rfl, fun _ _ => rfl, fun h => (by cases h), fun _ => rfl, fun nl nt x => by simp only [e_runtime_boundsError, cutAV, c_runtime_boundsError_cut]⟩
structure runtime_errorAddressString where
  msg : List (BitVec 8)
  addr : BitVec 64
  deriving DecidableEq
def c_runtime_errorAddressString (x : runtime_errorAddressString) : List AV := [eS x.msg, (@eU .u64 64) x.addr]
def e_runtime_errorAddressString (x : runtime_errorAddressString) : AV := .agg (c_runtime_errorAddressString x)
def z_runtime_errorAddressString : runtime_errorAddressString := ⟨([] : List (BitVec 8)), 0#64⟩
theorem c_runtime_errorAddressString_cut (nl nt : Nat → Option Nat) (x : runtime_errorAddressString) : cutL nl nt (c_runtime_errorAddressString x) = c_runtime_errorAddressString x := by simp only [cutL, e_runtime_errorAddressString, c_runtime_errorAddressString, cutAV, (enc_s td9 sz9).cut nl nt, (enc_u td12 sz12).cut nl nt]
theorem pc_runtime_errorAddressString (x : runtime_errorAddressString) : purL (c_runtime_errorAddressString x) = true := by simp only [c_runtime_errorAddressString, purL, purL_append, Bool.and_self, Bool.and_true, (show purA (eS x.msg) = true from (fun _ => rfl) _), (show purA ((@eU .u64 64) x.addr) = true from (fun _ => rfl) _)]
theorem pur_runtime_errorAddressString (x : runtime_errorAddressString) : purA (e_runtime_errorAddressString x) = true := pc_runtime_errorAddressString x
theorem enc13 : Enc ty 13 2 e_runtime_errorAddressString := ⟨sz13, by decide, fun _ => rfl, fun _ _ => rfl, fun h => (by cases h), fun _ => rfl, fun nl nt x => by simp only [e_runtime_errorAddressString, cutAV, c_runtime_errorAddressString_cut]⟩
theorem enc14 : Enc ty 14 2 e_runtime_errorAddressString := ⟨sz14, by decide, fun _ => rfl, fun _ _ => rfl, fun h => (by cases h), fun _ => rfl, fun nl nt x => by simp only [e_runtime_errorAddressString, cutAV, c_runtime_errorAddressString_cut]⟩
structure api_Entry where
  Key : List (BitVec 8)
  Version : Int
  AsOf : Int
  Ends : Int
  Value : List (BitVec 8)
  deriving DecidableEq
def c_api_Entry (x : api_Entry) : List AV := [eS x.Key, eI x.Version, eI x.AsOf, eI x.Ends, (eL 1 (@eU .u8 8)) x.Value]
def e_api_Entry (x : api_Entry) : AV := .agg (c_api_Entry x)
def z_api_Entry : api_Entry := ⟨([] : List (BitVec 8)), (0 : Int), (0 : Int), (0 : Int), ([] : List (BitVec 8))⟩
theorem c_api_Entry_cut (nl nt : Nat → Option Nat) (x : api_Entry) : cutL nl nt (c_api_Entry x) = c_api_Entry x := by simp only [cutL, e_api_Entry, c_api_Entry, cutAV, (enc_s td9 sz9).cut nl nt, (enc_i64 td3 sz3).cut nl nt, (enc_i64 td3 sz3).cut nl nt, (enc_i64 td3 sz3).cut nl nt, (enc_l td22 sz22 (enc_u td5 sz5).cut).cut nl nt]
theorem pc_api_Entry (x : api_Entry) : purL (c_api_Entry x) = true := by simp only [c_api_Entry, purL, purL_append, Bool.and_self, Bool.and_true, (show purA (eS x.Key) = true from (fun _ => rfl) _), (show purA (eI x.Version) = true from (fun _ => rfl) _), (show purA (eI x.AsOf) = true from (fun _ => rfl) _), (show purA (eI x.Ends) = true from (fun _ => rfl) _), (show purA ((eL 1 (@eU .u8 8)) x.Value) = true from (pur_eL (fun _ => rfl)) _)]
theorem pur_api_Entry (x : api_Entry) : purA (e_api_Entry x) = true := pc_api_Entry x
theorem enc23 : Enc ty 23 5 e_api_Entry := ⟨sz23, by decide, fun _ => rfl, fun _ _ => rfl, fun h => (by cases h), fun _ => rfl, fun nl nt x => by simp only [e_api_Entry, cutAV, c_api_Entry_cut]⟩
theorem enc24 : Enc ty 24 5 e_api_Entry := ⟨sz24, by decide, fun _ => rfl, fun _ _ => rfl, fun h => (by cases h), fun _ => rfl, fun nl nt x => by simp only [e_api_Entry, cutAV, c_api_Entry_cut]⟩
structure api_Msg where
  Kind : Int
  From : Int
  To : Int
  Epoch : Int
  Id : Int
  X : api_Entry
  Found : Bool
  deriving DecidableEq
def c_api_Msg (x : api_Msg) : List AV := [eI x.Kind] ++ [eI x.From] ++ [eI x.To] ++ [eI x.Epoch] ++ [eI x.Id] ++ (c_api_Entry x.X) ++ [eB x.Found]
def e_api_Msg (x : api_Msg) : AV := .agg (c_api_Msg x)
def z_api_Msg : api_Msg := ⟨(0 : Int), (0 : Int), (0 : Int), (0 : Int), (0 : Int), z_api_Entry, false⟩
theorem c_api_Msg_cut (nl nt : Nat → Option Nat) (x : api_Msg) : cutL nl nt (c_api_Msg x) = c_api_Msg x := by simp only [cutL, e_api_Msg, c_api_Msg, cutAV, (enc_i64 td3 sz3).cut nl nt, (enc_i64 td3 sz3).cut nl nt, (enc_i64 td3 sz3).cut nl nt, (enc_i64 td3 sz3).cut nl nt, (enc_i64 td3 sz3).cut nl nt, (enc_b td4 sz4).cut nl nt, c_api_Entry_cut nl nt, cutL_append]
theorem pc_api_Msg (x : api_Msg) : purL (c_api_Msg x) = true := by simp only [c_api_Msg, purL, purL_append, Bool.and_self, Bool.and_true, (show purA (eI x.Kind) = true from (fun _ => rfl) _), (show purA (eI x.From) = true from (fun _ => rfl) _), (show purA (eI x.To) = true from (fun _ => rfl) _), (show purA (eI x.Epoch) = true from (fun _ => rfl) _), (show purA (eI x.Id) = true from (fun _ => rfl) _), pc_api_Entry x.X, (show purA (eB x.Found) = true from (fun _ => rfl) _)]
theorem pur_api_Msg (x : api_Msg) : purA (e_api_Msg x) = true := pc_api_Msg x
theorem enc25 : Enc ty 25 11 e_api_Msg := ⟨sz25, by decide, fun _ => rfl, fun _ _ => rfl, fun h => (by cases h), fun _ => rfl, fun nl nt x => by simp only [e_api_Msg, cutAV, c_api_Msg_cut]⟩
theorem enc26 : Enc ty 26 11 e_api_Msg := ⟨sz26, by decide, fun _ => rfl, fun _ _ => rfl, fun h => (by cases h), fun _ => rfl, fun nl nt x => by simp only [e_api_Msg, cutAV, c_api_Msg_cut]⟩
structure trouble_fault where
  op : List (BitVec 8)
  at_ : Int
  code : Int
  under : Err
  deriving DecidableEq
def c_trouble_fault (x : trouble_fault) : List AV := [eS x.op, eI x.at_, eI x.code, eErr x.under]
def e_trouble_fault (x : trouble_fault) : AV := .agg (c_trouble_fault x)
def z_trouble_fault : trouble_fault := ⟨([] : List (BitVec 8)), (0 : Int), (0 : Int), Err.nil⟩
theorem c_trouble_fault_cut (nl nt : Nat → Option Nat) (x : trouble_fault) : cutL nl nt (c_trouble_fault x) = c_trouble_fault x := by simp only [cutL, e_trouble_fault, c_trouble_fault, cutAV, (enc_s td9 sz9).cut nl nt, (enc_i64 td3 sz3).cut nl nt, (enc_i64 td33 sz33).cut nl nt, encErr.cut nl nt]
theorem enc63 : Enc ty 63 4 e_trouble_fault := ⟨sz63, by decide, fun _ => rfl, fun _ _ => rfl, fun h => (by cases h), fun x => (by simp only [e_trouble_fault, c_trouble_fault, AV.cells, List.all_cons, List.all_nil, eErr_flat]; rfl), fun nl nt x => by simp only [e_trouble_fault, cutAV, c_trouble_fault_cut]⟩
theorem enc64 : Enc ty 64 4 e_trouble_fault := ⟨sz64, by decide, fun _ => rfl, fun _ _ => rfl, fun h => (by cases h), fun x => (by simp only [e_trouble_fault, c_trouble_fault, AV.cells, List.all_cons, List.all_nil, eErr_flat]; rfl), fun nl nt x => by simp only [e_trouble_fault, cutAV, c_trouble_fault_cut]⟩
structure butteryref02_Reader where
  B : List (BitVec 8)
  At : Int
  Code : Int
  deriving DecidableEq
def c_butteryref02_Reader (x : butteryref02_Reader) : List AV := [(eL 1 (@eU .u8 8)) x.B, eI x.At, eI x.Code]
def e_butteryref02_Reader (x : butteryref02_Reader) : AV := .agg (c_butteryref02_Reader x)
def z_butteryref02_Reader : butteryref02_Reader := ⟨([] : List (BitVec 8)), (0 : Int), (0 : Int)⟩
theorem c_butteryref02_Reader_cut (nl nt : Nat → Option Nat) (x : butteryref02_Reader) : cutL nl nt (c_butteryref02_Reader x) = c_butteryref02_Reader x := by simp only [cutL, e_butteryref02_Reader, c_butteryref02_Reader, cutAV, (enc_l td22 sz22 (enc_u td5 sz5).cut).cut nl nt, (enc_i64 td3 sz3).cut nl nt, (enc_i64 td33 sz33).cut nl nt]
theorem pc_butteryref02_Reader (x : butteryref02_Reader) : purL (c_butteryref02_Reader x) = true := by simp only [c_butteryref02_Reader, purL, purL_append, Bool.and_self, Bool.and_true, (show purA ((eL 1 (@eU .u8 8)) x.B) = true from (pur_eL (fun _ => rfl)) _), (show purA (eI x.At) = true from (fun _ => rfl) _), (show purA (eI x.Code) = true from (fun _ => rfl) _)]
theorem pur_butteryref02_Reader (x : butteryref02_Reader) : purA (e_butteryref02_Reader x) = true := pc_butteryref02_Reader x
theorem enc78 : Enc ty 78 3 e_butteryref02_Reader := ⟨sz78, by decide, fun _ => rfl, fun _ _ => rfl, fun h => (by cases h), fun _ => rfl, fun nl nt x => by simp only [e_butteryref02_Reader, cutAV, c_butteryref02_Reader_cut]⟩
theorem enc79 : Enc ty 79 3 e_butteryref02_Reader := ⟨sz79, by decide, fun _ => rfl, fun _ _ => rfl, fun h => (by cases h), fun _ => rfl, fun nl nt x => by simp only [e_butteryref02_Reader, cutAV, c_butteryref02_Reader_cut]⟩
structure octets_Reader where
  b : List (BitVec 8)
  at_ : Int
  code : Int
  deriving DecidableEq
def c_octets_Reader (x : octets_Reader) : List AV := [(eL 1 (@eU .u8 8)) x.b, eI x.at_, eI x.code]
def e_octets_Reader (x : octets_Reader) : AV := .agg (c_octets_Reader x)
def z_octets_Reader : octets_Reader := ⟨([] : List (BitVec 8)), (0 : Int), (0 : Int)⟩
theorem c_octets_Reader_cut (nl nt : Nat → Option Nat) (x : octets_Reader) : cutL nl nt (c_octets_Reader x) = c_octets_Reader x := by simp only [cutL, e_octets_Reader, c_octets_Reader, cutAV, (enc_l td22 sz22 (enc_u td5 sz5).cut).cut nl nt, (enc_i64 td3 sz3).cut nl nt, (enc_i64 td33 sz33).cut nl nt]
theorem pc_octets_Reader (x : octets_Reader) : purL (c_octets_Reader x) = true := by simp only [c_octets_Reader, purL, purL_append, Bool.and_self, Bool.and_true, (show purA ((eL 1 (@eU .u8 8)) x.b) = true from (pur_eL (fun _ => rfl)) _), (show purA (eI x.at_) = true from (fun _ => rfl) _), (show purA (eI x.code) = true from (fun _ => rfl) _)]
theorem pur_octets_Reader (x : octets_Reader) : purA (e_octets_Reader x) = true := pc_octets_Reader x
theorem enc101 : Enc ty 101 3 e_octets_Reader := ⟨sz101, by decide, fun _ => rfl, fun _ _ => rfl, fun h => (by cases h), fun _ => rfl, fun nl nt x => by simp only [e_octets_Reader, cutAV, c_octets_Reader_cut]⟩
theorem enc102 : Enc ty 102 3 e_octets_Reader := ⟨sz102, by decide, fun _ => rfl, fun _ _ => rfl, fun h => (by cases h), fun _ => rfl, fun nl nt x => by simp only [e_octets_Reader, cutAV, c_octets_Reader_cut]⟩
structure reflectlite_ValueError where
  Method : List (BitVec 8)
  Kind : BitVec 8
  deriving DecidableEq
def c_reflectlite_ValueError (x : reflectlite_ValueError) : List AV := [eS x.Method, (@eU .u8 8) x.Kind]
def e_reflectlite_ValueError (x : reflectlite_ValueError) : AV := .agg (c_reflectlite_ValueError x)
def z_reflectlite_ValueError : reflectlite_ValueError := ⟨([] : List (BitVec 8)), 0#8⟩
theorem c_reflectlite_ValueError_cut (nl nt : Nat → Option Nat) (x : reflectlite_ValueError) : cutL nl nt (c_reflectlite_ValueError x) = c_reflectlite_ValueError x := by simp only [cutL, e_reflectlite_ValueError, c_reflectlite_ValueError, cutAV, (enc_s td9 sz9).cut nl nt, (enc_u td95 sz95).cut nl nt]
theorem pc_reflectlite_ValueError (x : reflectlite_ValueError) : purL (c_reflectlite_ValueError x) = true := by simp only [c_reflectlite_ValueError, purL, purL_append, Bool.and_self, Bool.and_true, (show purA (eS x.Method) = true from (fun _ => rfl) _), (show purA ((@eU .u8 8) x.Kind) = true from (fun _ => rfl) _)]
theorem pur_reflectlite_ValueError (x : reflectlite_ValueError) : purA (e_reflectlite_ValueError x) = true := pc_reflectlite_ValueError x
theorem enc140 : Enc ty 140 2 e_reflectlite_ValueError := ⟨sz140, by decide, fun _ => rfl, fun _ _ => rfl, fun h => (by cases h), fun _ => rfl, fun nl nt x => by simp only [e_reflectlite_ValueError, cutAV, c_reflectlite_ValueError_cut]⟩
theorem enc141 : Enc ty 141 2 e_reflectlite_ValueError := ⟨sz141, by decide, fun _ => rfl, fun _ _ => rfl, fun h => (by cases h), fun _ => rfl, fun nl nt x => by simp only [e_reflectlite_ValueError, cutAV, c_reflectlite_ValueError_cut]⟩
structure abi_Method where
  Name : Int
  Mtyp : Int
  Ifn : Int
  Tfn : Int
  deriving DecidableEq
def c_abi_Method (x : abi_Method) : List AV := [(eK .i32) x.Name, (eK .i32) x.Mtyp, (eK .i32) x.Ifn, (eK .i32) x.Tfn]
def e_abi_Method (x : abi_Method) : AV := .agg (c_abi_Method x)
def z_abi_Method : abi_Method := ⟨(0 : Int), (0 : Int), (0 : Int), (0 : Int)⟩
theorem c_abi_Method_cut (nl nt : Nat → Option Nat) (x : abi_Method) : cutL nl nt (c_abi_Method x) = c_abi_Method x := by simp only [cutL, e_abi_Method, c_abi_Method, cutAV, (enc_i td134 sz134).cut nl nt, (enc_i td135 sz135).cut nl nt, (enc_i td147 sz147).cut nl nt, (enc_i td147 sz147).cut nl nt]
theorem pc_abi_Method (x : abi_Method) : purL (c_abi_Method x) = true := by simp only [c_abi_Method, purL, purL_append, Bool.and_self, Bool.and_true, (show purA ((eK .i32) x.Name) = true from (fun _ => rfl) _), (show purA ((eK .i32) x.Mtyp) = true from (fun _ => rfl) _), (show purA ((eK .i32) x.Ifn) = true from (fun _ => rfl) _), (show purA ((eK .i32) x.Tfn) = true from (fun _ => rfl) _)]
theorem pur_abi_Method (x : abi_Method) : purA (e_abi_Method x) = true := pc_abi_Method x
theorem enc148 : Enc ty 148 4 e_abi_Method := ⟨sz148, by decide, fun _ => rfl, fun _ _ => rfl, fun h => (by cases h), fun _ => rfl, fun nl nt x => by simp only [e_abi_Method, cutAV, c_abi_Method_cut]⟩
theorem enc149 : Enc ty 149 4 e_abi_Method := ⟨sz149, by decide, fun _ => rfl, fun _ _ => rfl, fun h => (by cases h), fun _ => rfl, fun nl nt x => by simp only [e_abi_Method, cutAV, c_abi_Method_cut]⟩
end Go.Proofs.YthkfilchighbhaaDoor
namespace Go.Va
open Go
set_option linter.unusedVariables false
set_option linter.unusedSimpArgs false

theorem loopO_up {S X : Type} {body : S → Option (S ⊕ X)} (g : Nat → S) (n : Nat) {x : X} (h : ∀ i, i < n → body (g i) = some (.inl (g (i + 1)))) (hx : body (g n) = some (.inr x)) : loopO body (g 0) = some x := by
  have key : ∀ k, k ≤ n → loopO body (g (n - k)) = some x := by
    intro k
    induction k with
    | zero => intro _; exact loopO_out hx
    | succ k ih =>
      intro hk
      rw [loopO_in (h (n - (k + 1)) (by omega)), show n - (k + 1) + 1 = n - k by omega]
      exact ih (by omega)
  have := key n (Nat.le_refl _)
  rwa [Nat.sub_self] at this
/-- What a round comes to that may leave. -/
def nx {S X : Type} (o : Option X) (s : S) : S ⊕ X := match o with | none => .inl s | some y => .inr y
/-- A loop that leaves early, at the first round that says so. -/
theorem loopO_find {S X : Type} {body : S → Option (S ⊕ X)} (g : Nat → S) (n : Nat) (f : Nat → Option X) {x : X} (h : ∀ i, i < n → body (g i) = some (nx (f i) (g (i + 1)))) (hx : body (g n) = some (.inr x)) : loopO body (g 0) = some (((List.range n).findSome? f).getD x) := by
  have key : ∀ k, k ≤ n → loopO body (g (n - k)) = some (((List.range' (n - k) k).findSome? f).getD x) := by
    intro k
    induction k with
    | zero => intro _; exact loopO_out hx
    | succ k ih =>
      intro hk
      rw [List.range'_succ, List.findSome?_cons]
      have h1 := h (n - (k + 1)) (by omega)
      cases hf : f (n - (k + 1)) with
      | none =>
        rw [hf] at h1
        rw [loopO_in (s' := g (n - (k + 1) + 1)) h1, show n - (k + 1) + 1 = n - k by omega]
        exact ih (by omega)
      | some y => rw [hf] at h1; exact loopO_out h1
  have := key n (Nat.le_refl _)
  rwa [Nat.sub_self, ← List.range_eq_range'] at this
theorem loopO_inv {S X : Type} {body : S → Option (S ⊕ X)} (I : S → Prop) (m : S → Nat) (Q : X → Prop) (h : ∀ s, I s → (∃ s', body s = some (.inl s') ∧ I s' ∧ m s' < m s) ∨ ∃ x, body s = some (.inr x) ∧ Q x) {s : S} (h0 : I s) : ∃ x, loopO body s = some x ∧ Q x := by
  generalize hk : m s = k
  induction k using Nat.strongRecOn generalizing s with
  | _ k ih =>
    rcases h s h0 with ⟨s', h1, h2, h3⟩ | ⟨x, h1, h2⟩
    · obtain ⟨x, k1, k2⟩ := ih (m s') (hk ▸ h3) h2 rfl
      exact ⟨x, by rw [loopO_in h1]; exact k1, k2⟩
    · exact ⟨x, loopO_out h1, h2⟩
/-- A loop that goes through a list. -/
theorem loopO_foldl {α σ X : Type} (l : List α) (f : σ → α → σ) (fin : σ → X) {body : σ × Int → Option ((σ × Int) ⊕ X)} (h1 : ∀ (s : σ) (i : Nat) (hi : i < l.length), body (s, (i : Int)) = some (.inl (f s l[i], ((i + 1 : Nat) : Int)))) (h2 : ∀ s, body (s, (l.length : Int)) = some (.inr (fin s))) (s0 : σ) : loopO body (s0, 0) = some (fin (l.foldl f s0)) := by
  have := loopO_up (body := body) (fun i => ((l.take i).foldl f s0, (i : Int))) l.length (x := fin (l.foldl f s0)) (fun i hi => by
    rw [h1 _ i hi, List.take_succ_eq_append_getElem hi, List.foldl_append]; rfl) (by rw [List.take_length]; exact h2 _)
  simpa using this
/-- A number of rounds. -/
theorem ix_nat {α : Type} {l : List α} {i : Nat} (h : i < l.length) : ix l (i : Int) = some l[i] := by
  unfold ix
  rw [if_pos (by omega)]
  simp [h]
theorem ixA_nat {α : Type} {l : List α} {n i : Nat} (hn : i < n) (h : i < l.length) : ixA n l (i : Int) = some l[i] := by
  unfold ixA
  rw [if_pos ⟨by omega, by omega⟩]
  simp [h]
theorem w64_nat {i : Nat} (h : i < 9223372036854775807) : w64 ((i : Int) + 1) = ((i + 1 : Nat) : Int) := by
  rw [w64_eq (by omega) (by omega)]; omega
theorem whole_eq {α : Type} {n : Nat} {l : List α} (h : l.length = n) : whole n l = some l := by simp [whole, h]
theorem stW_eq {α : Type} {n : Nat} {l y : List α} (h : l.length = n) (h2 : y.length = n) : stW n l y = some y := by simp [stW, whole, h, h2]
theorem app_eq {α : Type} {b : Nat} {l m : List α} (h : (l.length + m.length) * b ≤ 140737488355328) : app b l m = some (l ++ m) := by simp [app, h]
theorem cutTo_eq {α : Type} {l : List α} {n : Nat} (h : n ≤ l.length) : cutTo l (n : Int) = some (l.take n) := by
  unfold cutTo
  rw [if_pos ⟨by omega, by omega⟩]; simp
theorem cutFrom_eq {α : Type} {l : List α} {n : Nat} (h : n ≤ l.length) : cutFrom l (n : Int) = some (l.drop n) := by
  unfold cutFrom
  rw [if_pos ⟨by omega, by omega⟩]; simp
theorem cutO_eq {α : Type} {l : List α} {n m : Nat} (h : n ≤ m) (h2 : m ≤ l.length) : cutO l (n : Int) (m : Int) = some ((l.take m).drop n) := by
  unfold cutO
  rw [if_pos ⟨by omega, by omega, by omega⟩]; simp
theorem sc_eq {y : Int} (h : 0 ≤ y) : sc y = some y.toNat := by
  unfold sc; rw [if_neg (by omega)]
theorem dv_eq {y : Int} (h : y ≠ 0) : dv y = some y := by unfold dv; rw [if_neg h]
theorem eqA_eq {α : Type} [DecidableEq α] {n : Nat} {x y : List α} (h : x.length = n) (h2 : y.length = n) : eqA n x y = some (x == y) := by simp [eqA, h, h2]
end Go.Va
namespace Go.Proofs.YthkfilchighbhaaDoor
open Go Go.Va
set_option linter.unusedVariables false
set_option linter.unusedSimpArgs false
set_option maxRecDepth 20000
/-- The code of a fault: of the first one under it that has one. -/
def codeOf : Err → Int
  | .nil => 0
  | .fault o a c u => if c = 0 then codeOf u else c
def trouble_Of_b0 : Err → Option (Err ⊕ (Unit ⊕ Int))
  | .nil => some (.inr (.inl ()))
  | .fault o a c u => if (c != 0) = true then some (.inr (.inr c)) else some (.inl u)
def trouble_Of (x : Err) : Option Int := some (codeOf x)
theorem trouble_Of_l0 : ∀ x : Err, loopO trouble_Of_b0 x = some (if codeOf x = 0 then .inl () else .inr (codeOf x))
  | .nil => loopO_out rfl
  | .fault o a c u => by
    by_cases hc : c = 0
    · rw [loopO_in (s' := u) (by simp [trouble_Of_b0, hc]), trouble_Of_l0 u]; simp [codeOf, hc]
    · rw [loopO_out (x := .inr c) (by simp [trouble_Of_b0, hc])]; simp [codeOf, hc]
end Go.Proofs.YthkfilchighbhaaDoor
namespace Go.Proofs.YthkfilchighbhaaDoor
open Go Go.Va
set_option linter.unusedVariables false
set_option linter.unusedSimpArgs false
set_option maxRecDepth 20000
noncomputable def butteryref02_Same_b0 (x0 : List (BitVec 8)) (x1 : List (BitVec 8)) (c8 : Int) : Option ((Int) ⊕ (Unit ⊕ (Bool))) :=
  lt (((x0).length : Int)) fun v19 =>
  lt (decide (c8 < v19)) fun v21 =>
  if v21 = true then
    (ix x0 c8).bind fun v24 =>
    (ix x1 c8).bind fun v26 =>
    lt (v24 != v26) fun v28 =>
    if v28 = true then
      some (.inr (.inr false))
    else
      lt (w64 (c8 + (1 : Int))) fun v32 =>
      some (.inl v32)
  else
    some (.inr (.inl ()))
noncomputable def butteryref02_Same_l0 (x0 : List (BitVec 8)) (x1 : List (BitVec 8)) (s : Int) : Option (Unit ⊕ (Bool)) := loopO (fun s => butteryref02_Same_b0 x0 x1 s) s
noncomputable def butteryref02_Same (x0 : List (BitVec 8)) (x1 : List (BitVec 8)) : Option (Bool) :=
  lt (((x0).length : Int)) fun v2 =>
  lt (((x1).length : Int)) fun v4 =>
  lt (v2 != v4) fun v6 =>
  if v6 = true then
    some false
  else
    (butteryref02_Same_l0 x0 x1 (0 : Int)).bind fun o9 =>
      Sum.elim (fun s16 : Unit =>
        some true
        ) (fun y => some y) o9
end Go.Proofs.YthkfilchighbhaaDoor
namespace Go.Proofs.YthkfilchighbhaaDoor
open Go Go.Va
set_option linter.unusedVariables false
set_option linter.unusedSimpArgs false
set_option maxRecDepth 20000
noncomputable def butteryref06_Same (x0 : api_Entry) (x1 : api_Entry) : Option (Bool) :=
  lt (x0.Key == x1.Key) fun v2 =>
  if v2 = true then
    lt (x0.Version == x1.Version) fun v5 =>
    if v5 = true then
      lt (x0.AsOf == x1.AsOf) fun v8 =>
      if v8 = true then
        lt (x0.Ends == x1.Ends) fun v11 =>
        if v11 = true then
          (butteryref02_Same x0.Value x1.Value).bind fun v14 =>
          some v14
        else
          some false
      else
        some false
    else
      some false
  else
    some false
end Go.Proofs.YthkfilchighbhaaDoor
namespace Go.Proofs.YthkfilchighbhaaDoor
open Go Go.Va
set_option linter.unusedVariables false
set_option linter.unusedSimpArgs false
set_option maxRecDepth 20000
noncomputable def butteryref23_Same (x0 : api_Msg) (x1 : api_Msg) : Option (Bool) :=
  lt (x0.Kind == x1.Kind) fun v2 =>
  if v2 = true then
    lt (x0.From == x1.From) fun v5 =>
    if v5 = true then
      lt (x0.To == x1.To) fun v8 =>
      if v8 = true then
        lt (x0.Epoch == x1.Epoch) fun v11 =>
        if v11 = true then
          lt (x0.Id == x1.Id) fun v14 =>
          if v14 = true then
            lt (x0.Found == x1.Found) fun v17 =>
            if v17 = true then
              (butteryref06_Same x0.X x1.X).bind fun v20 =>
              some v20
            else
              some false
          else
            some false
        else
          some false
      else
        some false
    else
      some false
  else
    some false
end Go.Proofs.YthkfilchighbhaaDoor
namespace Go.Proofs.YthkfilchighbhaaDoor
open Go Go.Va
set_option linter.unusedVariables false
set_option linter.unusedSimpArgs false
set_option maxRecDepth 20000
noncomputable def butteryref23_lease (x0 : Int) : Option (Bool) :=
  lt (x0 == (5 : Int)) fun v2 =>
  if v2 = true then
    some true
  else
    lt (x0 == (6 : Int)) fun v5 =>
    some v5
end Go.Proofs.YthkfilchighbhaaDoor
namespace Go.Proofs.YthkfilchighbhaaDoor
open Go Go.Va
set_option linter.unusedVariables false
set_option linter.unusedSimpArgs false
set_option maxRecDepth 20000
noncomputable def butteryref23_key (x0 : Int) : Option (Bool) :=
  lt (decide (x0 ≥ (3 : Int))) fun v2 =>
  if v2 = true then
    lt (decide (x0 ≤ (6 : Int))) fun v5 =>
    some v5
  else
    some false
end Go.Proofs.YthkfilchighbhaaDoor
namespace Go.Proofs.YthkfilchighbhaaDoor
open Go Go.Va
set_option linter.unusedVariables false
set_option linter.unusedSimpArgs false
set_option maxRecDepth 20000
noncomputable def butteryref23_asof (x0 : Int) : Option (Bool) :=
  lt (x0 == (2 : Int)) fun v2 =>
  if v2 = true then
    some true
  else
    lt (x0 == (3 : Int)) fun v5 =>
    if v5 = true then
      some true
    else
      lt (x0 == (4 : Int)) fun v8 =>
      if v8 = true then
        some true
      else
        lt (x0 == (6 : Int)) fun v11 =>
        some v11
end Go.Proofs.YthkfilchighbhaaDoor
namespace Go.Proofs.YthkfilchighbhaaDoor
open Go Go.Va
set_option linter.unusedVariables false
set_option linter.unusedSimpArgs false
set_option maxRecDepth 20000
noncomputable def butteryref02_Key (x0 : List (BitVec 8)) : Option (Int) :=
  lt (x0 == ([] : List (BitVec 8))) fun v2 =>
  if v2 = true then
    some (1 : Int)
  else
    lt (((x0).length : Int)) fun v5 =>
    lt (decide (v5 > (40 : Int))) fun v7 =>
    if v7 = true then
      some (3 : Int)
    else
      some (0 : Int)
end Go.Proofs.YthkfilchighbhaaDoor
namespace Go.Proofs.YthkfilchighbhaaDoor
open Go Go.Va
set_option linter.unusedVariables false
set_option linter.unusedSimpArgs false
set_option maxRecDepth 20000
noncomputable def butteryref06_Check (x0 : api_Entry) : Option (Int) :=
  (butteryref02_Key x0.Key).bind fun v2 =>
  lt (v2 != (0 : Int)) fun v4 =>
  if v4 = true then
    some v2
  else
    (
      lt (decide (x0.Version < (1 : Int))) fun v11 =>
      if v11 = true then
        some true
      else
        lt (decide (x0.Version > (1099511627776 : Int))) fun v14 =>
        if v14 = true then
          some true
        else
          lt (decide (x0.AsOf < x0.Version)) fun v17 =>
          if v17 = true then
            some true
          else
            lt (decide (x0.AsOf > (1099511627776 : Int))) fun v20 =>
            if v20 = true then
              some true
            else
              lt (decide (x0.Ends < (0 : Int))) fun v23 =>
              if v23 = true then
                some true
              else
                lt (decide (x0.Ends > (1099511627776 : Int))) fun v26 =>
                some v26
     : Option (Bool)).bind fun s6 =>
      if s6 = true then
        some (2 : Int)
      else
        lt (((x0.Value).length : Int)) fun v30 =>
        lt (decide (v30 > (4096 : Int))) fun v32 =>
        if v32 = true then
          some (3 : Int)
        else
          some (0 : Int)
end Go.Proofs.YthkfilchighbhaaDoor
namespace Go.Proofs.YthkfilchighbhaaDoor
open Go Go.Va
set_option linter.unusedVariables false
set_option linter.unusedSimpArgs false
set_option maxRecDepth 20000
noncomputable def butteryref23_fields (x0 : api_Msg) : Option (Int) :=
  (
    (butteryref23_lease x0.Kind).bind fun v6 =>
    if v6 = true then
      lt (decide (x0.Id < (1 : Int))) fun v9 =>
      if v9 = true then
        some true
      else
        lt (decide (x0.Id > (1099511627776 : Int))) fun v12 =>
        some v12
    else
      some false
   : Option (Bool)).bind fun s1 =>
    if s1 = true then
      some (2 : Int)
    else
      (butteryref23_key x0.Kind).bind fun v16 =>
      (
        if v16 = true then
          (butteryref02_Key x0.X.Key).bind fun v23 =>
          lt (v23 != (0 : Int)) fun v25 =>
          if v25 = true then
            some (.inr v23)
          else
            some (.inl ())
        else
          some (.inl ())
       : Option (Unit ⊕ _)).bind fun o18 =>
        Sum.elim (fun s17 : Unit =>
          (
            (butteryref23_asof x0.Kind).bind fun v34 =>
            if v34 = true then
              lt (decide (x0.X.AsOf < (0 : Int))) fun v37 =>
              if v37 = true then
                some true
              else
                lt (decide (x0.X.AsOf > (1099511627776 : Int))) fun v40 =>
                some v40
            else
              some false
           : Option (Bool)).bind fun s29 =>
            if s29 = true then
              some (2 : Int)
            else
              (
                lt (x0.Kind == (6 : Int)) fun v48 =>
                if v48 = true then
                  some x0.Found
                else
                  some false
               : Option (Bool)).bind fun s43 =>
                if s43 = true then
                  (butteryref06_Check x0.X).bind fun v53 =>
                  some v53
                else
                  some (0 : Int)
          ) (fun y => some y) o18
end Go.Proofs.YthkfilchighbhaaDoor
namespace Go.Proofs.YthkfilchighbhaaDoor
open Go Go.Va
set_option linter.unusedVariables false
set_option linter.unusedSimpArgs false
set_option maxRecDepth 20000
noncomputable def butteryref23_found (x0 : Int) : Option (Bool) :=
  lt (x0 == (2 : Int)) fun v2 =>
  if v2 = true then
    some true
  else
    lt (x0 == (6 : Int)) fun v5 =>
    some v5
end Go.Proofs.YthkfilchighbhaaDoor
namespace Go.Proofs.YthkfilchighbhaaDoor
open Go Go.Va
set_option linter.unusedVariables false
set_option linter.unusedSimpArgs false
set_option maxRecDepth 20000
noncomputable def butteryref23_only (x0 : api_Msg) : Option (api_Msg) :=
  lt ((⟨x0.Kind, x0.From, x0.To, x0.Epoch, (0 : Int), z_api_Entry, false⟩ : api_Msg)) fun v4 =>
  lt ((v4 : api_Msg)) fun c8 =>
  (butteryref23_lease x0.Kind).bind fun v11 =>
  (
    if v11 = true then
      lt (({ c8 with Id := x0.Id } : api_Msg)) fun c18 =>
      some c18
    else
      some c8
   : Option (api_Msg)).bind fun s12 =>
    (butteryref23_key x0.Kind).bind fun v22 =>
    (
      if v22 = true then
        lt (({ s12 with X := { s12.X with Key := x0.X.Key } } : api_Msg)) fun c29 =>
        some c29
      else
        some s12
     : Option (api_Msg)).bind fun s23 =>
      (butteryref23_asof x0.Kind).bind fun v33 =>
      (
        if v33 = true then
          lt (({ s23 with X := { s23.X with AsOf := x0.X.AsOf } } : api_Msg)) fun c40 =>
          some c40
        else
          some s23
       : Option (api_Msg)).bind fun s34 =>
        (butteryref23_found x0.Kind).bind fun v44 =>
        (
          if v44 = true then
            lt (({ s34 with Found := x0.Found } : api_Msg)) fun c51 =>
            some c51
          else
            some s34
         : Option (api_Msg)).bind fun s45 =>
          (
            lt (x0.Kind == (6 : Int)) fun v59 =>
            if v59 = true then
              some x0.Found
            else
              some false
           : Option (Bool)).bind fun s54 =>
            if s54 = true then
              lt (({ s45 with X := x0.X } : api_Msg)) fun c64 =>
              lt ((c64 : api_Msg)) fun c67 =>
              some c67
            else
              lt ((s45 : api_Msg)) fun c70 =>
              some c70
end Go.Proofs.YthkfilchighbhaaDoor
namespace Go.Proofs.YthkfilchighbhaaDoor
open Go Go.Va
set_option linter.unusedVariables false
set_option linter.unusedSimpArgs false
set_option maxRecDepth 20000
noncomputable def butteryref23_Check (x0 : api_Msg) : Option (Int) :=
  (
    lt (decide (x0.Kind < (1 : Int))) fun v6 =>
    if v6 = true then
      some true
    else
      lt (decide (x0.Kind > (6 : Int))) fun v9 =>
      some v9
   : Option (Bool)).bind fun s1 =>
    if s1 = true then
      some (12 : Int)
    else
      (
        lt (x0.Kind == (2 : Int)) fun v17 =>
        if v17 = true then
          some true
        else
          lt (x0.Kind == (3 : Int)) fun v20 =>
          if v20 = true then
            some true
          else
            lt (x0.Kind == (6 : Int)) fun v23 =>
            some v23
       : Option (Bool)).bind fun s12 =>
        (
          if s12 = true then
            some (x0.To, x0.From)
          else
            some (x0.From, x0.To)
         : Option (Int × Int)).bind fun s25 =>
          (
            lt (decide (s25.1 < (1 : Int))) fun v36 =>
            if v36 = true then
              some true
            else
              lt (decide (s25.1 > (16 : Int))) fun v39 =>
              if v39 = true then
                some true
              else
                lt (s25.2 != (0 : Int)) fun v42 =>
                if v42 = true then
                  some true
                else
                  lt (decide (x0.Epoch < (1 : Int))) fun v45 =>
                  if v45 = true then
                    some true
                  else
                    lt (decide (x0.Epoch > (1099511627776 : Int))) fun v48 =>
                    some v48
           : Option (Bool)).bind fun s31 =>
            if s31 = true then
              some (2 : Int)
            else
              (butteryref23_fields x0).bind fun v52 =>
              lt (v52 != (0 : Int)) fun v54 =>
              if v54 = true then
                some v52
              else
                (butteryref23_only x0).bind fun v57 =>
                (butteryref23_Same x0 v57).bind fun v59 =>
                lt (!v59) fun v61 =>
                if v61 = true then
                  some (5 : Int)
                else
                  some (0 : Int)
end Go.Proofs.YthkfilchighbhaaDoor
namespace Go.Proofs.YthkfilchighbhaaDoor
open Go Go.Va
set_option linter.unusedVariables false
set_option linter.unusedSimpArgs false
set_option maxRecDepth 20000
noncomputable def trouble_Wrap (x0 : List (BitVec 8)) (x1 : Int) (x2 : Err) : Option (Err) :=
  lt (Err.isNil x2) fun v2 =>
  if v2 = true then
    some Err.nil
  else
    lt ((⟨x0, x1, (0 : Int), x2⟩ : trouble_fault)) fun v5 =>
    some (Err.fault v5.op v5.at_ v5.code v5.under)
end Go.Proofs.YthkfilchighbhaaDoor
namespace Go.Proofs.YthkfilchighbhaaDoor
open Go Go.Va
set_option linter.unusedVariables false
set_option linter.unusedSimpArgs false
set_option maxRecDepth 20000
noncomputable def wire_parts (x0 : Int) : Option ((List (BitVec 8))) :=
  lt (x0 == (2 : Int)) fun v2 =>
  if v2 = true then
    some ([65#8, 70#8] : List (BitVec 8))
  else
    lt (x0 == (3 : Int)) fun v5 =>
    (
      if v5 = true then
        some v5
      else
        lt (x0 == (4 : Int)) fun v12 =>
        some v12
     : Option (Bool)).bind fun s6 =>
      if s6 = true then
        some ([75#8, 65#8] : List (BitVec 8))
      else
        lt (x0 == (5 : Int)) fun v16 =>
        if v16 = true then
          some ([73#8, 75#8] : List (BitVec 8))
        else
          lt (x0 == (6 : Int)) fun v19 =>
          if v19 = true then
            some ([73#8, 75#8, 65#8, 70#8, 86#8] : List (BitVec 8))
          else
            some ([] : List (BitVec 8))
end Go.Proofs.YthkfilchighbhaaDoor
namespace Go.Proofs.YthkfilchighbhaaDoor
open Go Go.Va
set_option linter.unusedVariables false
set_option linter.unusedSimpArgs false
set_option maxRecDepth 20000
noncomputable def trouble_New (x0 : List (BitVec 8)) (x1 : Int) (x2 : Int) : Option (Err) :=
  lt (x2 == (0 : Int)) fun v2 =>
  if v2 = true then
    some Err.nil
  else
    lt ((⟨x0, x1, x2, Err.nil⟩ : trouble_fault)) fun v5 =>
    some (Err.fault v5.op v5.at_ v5.code v5.under)
end Go.Proofs.YthkfilchighbhaaDoor
namespace Go.Proofs.YthkfilchighbhaaDoor
open Go Go.Va
set_option linter.unusedVariables false
set_option linter.unusedSimpArgs false
set_option maxRecDepth 20000
noncomputable def wire_down (x0 : Int) : Option (Bool) :=
  lt (x0 == (2 : Int)) fun v2 =>
  if v2 = true then
    some true
  else
    lt (x0 == (3 : Int)) fun v5 =>
    if v5 = true then
      some true
    else
      lt (x0 == (6 : Int)) fun v8 =>
      some v8
end Go.Proofs.YthkfilchighbhaaDoor
namespace Go.Proofs.YthkfilchighbhaaDoor
open Go Go.Va
set_option linter.unusedVariables false
set_option linter.unusedSimpArgs false
set_option maxRecDepth 20000
noncomputable def octets_Key (x0 : List (BitVec 8)) : Option (Int) :=
  lt (((x0).length : Int)) fun v2 =>
  lt (v2 == (0 : Int)) fun v4 =>
  if v4 = true then
    some (1 : Int)
  else
    lt (decide (v2 > (40 : Int))) fun v7 =>
    if v7 = true then
      some (3 : Int)
    else
      some (0 : Int)
end Go.Proofs.YthkfilchighbhaaDoor
namespace Go.Proofs.YthkfilchighbhaaDoor
open Go Go.Va
set_option linter.unusedVariables false
set_option linter.unusedSimpArgs false
set_option maxRecDepth 20000
noncomputable def item_Check_1_c (x0 : List (BitVec 8)) (x1 : Int) (x2 : Int) (x3 : Err) : Option (Err) :=
  (
    lt (Err.isNil x3) fun v6 =>
    if v6 = true then
      lt (decide (x1 < x2)) fun v9 =>
      if v9 = true then
        some true
      else
        lt (decide (x1 > (1099511627776 : Int))) fun v12 =>
        some v12
    else
      some false
   : Option (Bool)).bind fun s1 =>
    if s1 = true then
      (trouble_New x0 x1 (2 : Int)).bind fun v16 =>
      lt ((v16 : Err)) fun c18 =>
      some c18
    else
      some x3
end Go.Proofs.YthkfilchighbhaaDoor
namespace Go.Proofs.YthkfilchighbhaaDoor
open Go Go.Va
set_option linter.unusedVariables false
set_option linter.unusedSimpArgs false
set_option maxRecDepth 20000
noncomputable def item_Check (x0 : api_Entry) : Option (Err) :=
  (octets_Key x0.Key).bind fun v2 =>
  lt (v2 != (0 : Int)) fun v4 =>
  if v4 = true then
    lt (((x0.Key).length : Int)) fun v7 =>
    (trouble_New ([107#8, 101#8, 121#8] : List (BitVec 8)) v7 v2).bind fun v9 =>
    some v9
  else
    (item_Check_1_c ([118#8, 101#8, 114#8, 115#8, 105#8, 111#8, 110#8] : List (BitVec 8)) x0.Version (1 : Int) Err.nil).bind fun v13 =>
    (item_Check_1_c ([97#8, 115#8, 111#8, 102#8] : List (BitVec 8)) x0.AsOf x0.Version v13).bind fun v15 =>
    (item_Check_1_c ([101#8, 110#8, 100#8, 115#8] : List (BitVec 8)) x0.Ends (0 : Int) v15).bind fun v17 =>
    (
      lt (Err.isNil v17) fun v23 =>
      if v23 = true then
        lt (((x0.Value).length : Int)) fun v26 =>
        lt (decide (v26 > (4096 : Int))) fun v28 =>
        some v28
      else
        some false
     : Option (Bool)).bind fun s18 =>
      if s18 = true then
        lt (((x0.Value).length : Int)) fun v32 =>
        (trouble_New ([118#8, 97#8, 108#8, 117#8, 101#8] : List (BitVec 8)) v32 (3 : Int)).bind fun v34 =>
        lt ((v34 : Err)) fun c36 =>
        some c36
      else
        some v17
end Go.Proofs.YthkfilchighbhaaDoor
namespace Go.Proofs.YthkfilchighbhaaDoor
open Go Go.Va
set_option linter.unusedVariables false
set_option linter.unusedSimpArgs false
set_option maxRecDepth 20000
noncomputable def item_Same (x0 : api_Entry) (x1 : api_Entry) : Option (Bool) :=
  lt (x0.Key == x1.Key) fun v2 =>
  if v2 = true then
    lt (x0.Version == x1.Version) fun v5 =>
    if v5 = true then
      lt (x0.AsOf == x1.AsOf) fun v8 =>
      if v8 = true then
        lt (x0.Ends == x1.Ends) fun v11 =>
        if v11 = true then
          lt (x0.Value == x1.Value) fun v14 =>
          some v14
        else
          some false
      else
        some false
    else
      some false
  else
    some false
end Go.Proofs.YthkfilchighbhaaDoor
namespace Go.Proofs.YthkfilchighbhaaDoor
open Go Go.Va
set_option linter.unusedVariables false
set_option linter.unusedSimpArgs false
set_option maxRecDepth 20000
noncomputable def wire_Check_b0 (x0 : api_Msg) (c72 : List (BitVec 8) × Nat) (c73 : api_Msg) : Option (((List (BitVec 8) × Nat) × api_Msg) ⊕ (((List (BitVec 8) × Nat) × api_Msg) ⊕ (Err))) :=
  (nxS c72).bind fun v84 =>
  Option.elim v84 (
    some (.inr (.inl (c72, c73)))
  ) (fun c86 =>
    lt (c86 == (73 : Int)) fun v88 =>
    if v88 = true then
      (
        lt (decide (x0.Id < (1 : Int))) fun v95 =>
        if v95 = true then
          some true
        else
          lt (decide (x0.Id > (1099511627776 : Int))) fun v98 =>
          some v98
       : Option (Bool)).bind fun s90 =>
        if s90 = true then
          (trouble_New ([108#8, 101#8, 97#8, 115#8, 101#8] : List (BitVec 8)) x0.Id (2 : Int)).bind fun v102 =>
          some (.inr (.inr v102))
        else
          lt (({ c73 with Id := (0 : Int) } : api_Msg)) fun c105 =>
          some (.inl ((c72.1, c72.2 + 1), c105))
    else
      lt (c86 == (75 : Int)) fun v108 =>
      if v108 = true then
        (octets_Key x0.X.Key).bind fun v111 =>
        lt (v111 != (0 : Int)) fun v113 =>
        if v113 = true then
          lt (((x0.X.Key).length : Int)) fun v116 =>
          (trouble_New ([107#8, 101#8, 121#8] : List (BitVec 8)) v116 v111).bind fun v118 =>
          some (.inr (.inr v118))
        else
          lt (({ c73 with X := { c73.X with Key := ([] : List (BitVec 8)) } } : api_Msg)) fun c121 =>
          some (.inl ((c72.1, c72.2 + 1), c121))
      else
        lt (c86 == (65 : Int)) fun v124 =>
        if v124 = true then
          (
            lt (decide (x0.X.AsOf < (0 : Int))) fun v131 =>
            if v131 = true then
              some true
            else
              lt (decide (x0.X.AsOf > (1099511627776 : Int))) fun v134 =>
              some v134
           : Option (Bool)).bind fun s126 =>
            if s126 = true then
              (trouble_New ([97#8, 115#8, 111#8, 102#8] : List (BitVec 8)) x0.X.AsOf (2 : Int)).bind fun v138 =>
              some (.inr (.inr v138))
            else
              lt (({ c73 with X := { c73.X with AsOf := (0 : Int) } } : api_Msg)) fun c141 =>
              some (.inl ((c72.1, c72.2 + 1), c141))
        else
          lt (c86 == (70 : Int)) fun v144 =>
          if v144 = true then
            lt (({ c73 with Found := false } : api_Msg)) fun c147 =>
            some (.inl ((c72.1, c72.2 + 1), c147))
          else
            lt (c86 == (86 : Int)) fun v150 =>
            if v150 = true then
              lt (!x0.Found) fun v153 =>
              if v153 = true then
                some (.inl ((c72.1, c72.2 + 1), c73))
              else
                (item_Check x0.X).bind fun v156 =>
                lt (!Err.isNil v156) fun v158 =>
                if v158 = true then
                  (trouble_Wrap ([118#8, 97#8, 108#8, 117#8, 101#8] : List (BitVec 8)) x0.Id v156).bind fun v161 =>
                  some (.inr (.inr v161))
                else
                  lt (({ c73 with X := (⟨([] : List (BitVec 8)), (0 : Int), (0 : Int), (0 : Int), ([] : List (BitVec 8))⟩ : api_Entry) } : api_Msg)) fun c164 =>
                  some (.inl ((c72.1, c72.2 + 1), c164))
            else
              some (.inl ((c72.1, c72.2 + 1), c73))
  )
noncomputable def wire_Check_l0 (x0 : api_Msg) (s : (List (BitVec 8) × Nat) × api_Msg) : Option (((List (BitVec 8) × Nat) × api_Msg) ⊕ (Err)) := loopO (fun s => wire_Check_b0 x0 s.1 s.2) s
noncomputable def wire_Check (x0 : api_Msg) : Option (Err) :=
  (
    lt (decide (x0.Kind < (1 : Int))) fun v6 =>
    if v6 = true then
      some true
    else
      lt (decide (x0.Kind > (6 : Int))) fun v9 =>
      some v9
   : Option (Bool)).bind fun s1 =>
    if s1 = true then
      (trouble_New ([107#8, 105#8, 110#8, 100#8] : List (BitVec 8)) x0.Kind (12 : Int)).bind fun v13 =>
      some v13
    else
      (wire_down x0.Kind).bind fun v15 =>
      (
        if v15 = true then
          some (x0.To, x0.From)
        else
          some (x0.From, x0.To)
       : Option (Int × Int)).bind fun s16 =>
        (
          lt (decide (s16.1 < (1 : Int))) fun v27 =>
          if v27 = true then
            some true
          else
            lt (decide (s16.1 > (16 : Int))) fun v30 =>
            if v30 = true then
              some true
            else
              lt (s16.2 != (0 : Int)) fun v33 =>
              some v33
         : Option (Bool)).bind fun s22 =>
          if s22 = true then
            (trouble_New ([112#8, 108#8, 97#8, 99#8, 101#8] : List (BitVec 8)) s16.1 (2 : Int)).bind fun v37 =>
            some v37
          else
            (
              lt (decide (x0.Epoch < (1 : Int))) fun v43 =>
              if v43 = true then
                some true
              else
                lt (decide (x0.Epoch > (1099511627776 : Int))) fun v46 =>
                some v46
             : Option (Bool)).bind fun s38 =>
              if s38 = true then
                (trouble_New ([101#8, 112#8, 111#8, 99#8, 104#8] : List (BitVec 8)) x0.Epoch (2 : Int)).bind fun v50 =>
                some v50
              else
                lt ((x0 : api_Msg)) fun c54 =>
                lt (({ c54 with Kind := (0 : Int) } : api_Msg)) fun c57 =>
                lt (({ c57 with From := (0 : Int) } : api_Msg)) fun c60 =>
                lt (({ c60 with To := (0 : Int) } : api_Msg)) fun c63 =>
                lt (({ c63 with Epoch := (0 : Int) } : api_Msg)) fun c66 =>
                (wire_parts x0.Kind).bind fun v69 =>
                (wire_Check_l0 x0 ((v69, 0), c66)).bind fun o74 =>
                  Sum.elim (fun s81 : (List (BitVec 8) × Nat) × api_Msg =>
                    (
                      lt (s81.2.Id != (0 : Int)) fun v172 =>
                      if v172 = true then
                        some true
                      else
                        if s81.2.Found = true then
                          some true
                        else
                          (item_Same s81.2.X (⟨([] : List (BitVec 8)), (0 : Int), (0 : Int), (0 : Int), ([] : List (BitVec 8))⟩ : api_Entry)).bind fun v176 =>
                          lt (!v176) fun v178 =>
                          some v178
                     : Option (Bool)).bind fun s167 =>
                      if s167 = true then
                        (trouble_New ([109#8, 101#8, 115#8, 115#8, 97#8, 103#8, 101#8] : List (BitVec 8)) x0.Kind (5 : Int)).bind fun v182 =>
                        some v182
                      else
                        some Err.nil
                    ) (fun y => some y) o74
end Go.Proofs.YthkfilchighbhaaDoor
namespace Go.Proofs.YthkfilchighbhaaDoor
open Go Go.Va
set_option linter.unusedVariables false
set_option linter.unusedSimpArgs false
set_option maxRecDepth 20000
noncomputable def checksum_Four (x0 : BitVec 32) : Option ((List (BitVec 8))) :=
  lt (BitVec.setWidth 8 x0) fun v4 =>
  lt (x0 >>> 8) fun v6 =>
  lt (BitVec.setWidth 8 v6) fun v8 =>
  lt (x0 >>> 16) fun v10 =>
  lt (BitVec.setWidth 8 v10) fun v12 =>
  lt (x0 >>> 24) fun v14 =>
  lt (BitVec.setWidth 8 v14) fun v16 =>
  lt (([v4, v8, v12, v16] : List (BitVec 8))) fun v18 =>
  (stW 4 (List.replicate 4 0#8) v18).bind fun c20 =>
  (whole 4 c20).bind fun w22 =>
  some w22
end Go.Proofs.YthkfilchighbhaaDoor
namespace Go.Proofs.YthkfilchighbhaaDoor
open Go Go.Va
set_option linter.unusedVariables false
set_option linter.unusedSimpArgs false
set_option maxRecDepth 20000
noncomputable def checksum_column_b0  (c3 : BitVec 32) (c4 : Int) : Option (((BitVec 32) × Int) ⊕ ((BitVec 32))) :=
  lt (decide (c4 < (8 : Int))) fun v15 =>
  if v15 = true then
    lt (c3 &&& 1#32) fun v18 =>
    lt (v18 == 1#32) fun v20 =>
    if v20 = true then
      lt (c3 >>> 1) fun v23 =>
      lt (v23 ^^^ 3988292384#32) fun v25 =>
      lt (w64 (c4 + (1 : Int))) fun v27 =>
      some (.inl (v25, v27))
    else
      lt (c3 >>> 1) fun v29 =>
      lt (w64 (c4 + (1 : Int))) fun v31 =>
      some (.inl (v29, v31))
  else
    some (.inr c3)
noncomputable def checksum_column_l0  (s : (BitVec 32) × Int) : Option ((BitVec 32)) := loopO (fun s => checksum_column_b0 s.1 s.2) s
noncomputable def checksum_column (x0 : BitVec 8) : Option ((BitVec 32)) :=
  lt (BitVec.setWidth 32 x0) fun v2 =>
  (checksum_column_l0 (v2, (0 : Int))).bind fun s12 =>
    some s12
end Go.Proofs.YthkfilchighbhaaDoor
namespace Go.Proofs.YthkfilchighbhaaDoor
open Go Go.Va
set_option linter.unusedVariables false
set_option linter.unusedSimpArgs false
set_option maxRecDepth 20000
noncomputable def checksum_More_b0 (x1 : List (BitVec 8)) (v4 : Int) (c5 : BitVec 32) (c6 : Int) : Option (((BitVec 32) × Int) ⊕ ((BitVec 32))) :=
  lt (decide (c6 < v4)) fun v17 =>
  if v17 = true then
    (ix x1 c6).bind fun v20 =>
    lt (c5 >>> 8) fun v22 =>
    lt (BitVec.setWidth 8 c5) fun v24 =>
    lt (v24 ^^^ v20) fun v26 =>
    (checksum_column v26).bind fun v28 =>
    lt (v22 ^^^ v28) fun v30 =>
    lt (w64 (c6 + (1 : Int))) fun v32 =>
    some (.inl (v30, v32))
  else
    some (.inr c5)
noncomputable def checksum_More_l0 (x1 : List (BitVec 8)) (v4 : Int) (s : (BitVec 32) × Int) : Option ((BitVec 32)) := loopO (fun s => checksum_More_b0 x1 v4 s.1 s.2) s
noncomputable def checksum_More (x0 : BitVec 32) (x1 : List (BitVec 8)) : Option ((BitVec 32)) :=
  lt (~~~ x0) fun v2 =>
  lt (((x1).length : Int)) fun v4 =>
  (checksum_More_l0 x1 v4 (v2, (0 : Int))).bind fun s14 =>
    lt (~~~ s14) fun v35 =>
    some v35
end Go.Proofs.YthkfilchighbhaaDoor
namespace Go.Proofs.YthkfilchighbhaaDoor
open Go Go.Va
set_option linter.unusedVariables false
set_option linter.unusedSimpArgs false
set_option maxRecDepth 20000
noncomputable def checksum_Sum (x0 : List (BitVec 8)) : Option ((BitVec 32)) :=
  (checksum_More 0#32 x0).bind fun v2 =>
  some v2
end Go.Proofs.YthkfilchighbhaaDoor
namespace Go.Proofs.YthkfilchighbhaaDoor
open Go Go.Va
set_option linter.unusedVariables false
set_option linter.unusedSimpArgs false
set_option maxRecDepth 20000
noncomputable def checksum_Fits (x0 : List (BitVec 8)) : Option (Bool) :=
  lt (((x0).length : Int)) fun v2 =>
  lt (w64 (v2 - (4 : Int))) fun v4 =>
  lt (decide (v4 < (0 : Int))) fun v6 =>
  if v6 = true then
    some false
  else
    (cutTo x0 v4).bind fun v9 =>
    (checksum_Sum v9).bind fun v11 =>
    (checksum_Four v11).bind fun v13 =>
    (cutFrom x0 v4).bind fun v15 =>
    (cutTo v15 4).bind fun v17 =>
    (whole 4 v17).bind fun v19 =>
    (eqA 4 v13 v19).bind fun v21 =>
    some v21
end Go.Proofs.YthkfilchighbhaaDoor
namespace Go.Proofs.YthkfilchighbhaaDoor
open Go Go.Va
set_option linter.unusedVariables false
set_option linter.unusedSimpArgs false
set_option maxRecDepth 20000
noncomputable def octets_Read (x0 : List (BitVec 8)) : Option (octets_Reader) :=
  (app 1 ([] : List (BitVec 8)) x0).bind fun v2 =>
  lt ((⟨v2, (0 : Int), (0 : Int)⟩ : octets_Reader)) fun v6 =>
  some v6
end Go.Proofs.YthkfilchighbhaaDoor
namespace Go.Proofs.YthkfilchighbhaaDoor
open Go Go.Va
set_option linter.unusedVariables false
set_option linter.unusedSimpArgs false
set_option maxRecDepth 20000
noncomputable def octets_Reader_Fail (x0 : octets_Reader) (x1 : Int) : Option (octets_Reader) :=
  lt (x0.code == (0 : Int)) fun v2 =>
  if v2 = true then
    lt (({ x0 with code := x1 } : octets_Reader)) fun c5 =>
    some c5
  else
    some x0
end Go.Proofs.YthkfilchighbhaaDoor
namespace Go.Proofs.YthkfilchighbhaaDoor
open Go Go.Va
set_option linter.unusedVariables false
set_option linter.unusedSimpArgs false
set_option maxRecDepth 20000
noncomputable def octets_Reader_Number_b0 (x1 : Int) (c1 : Int) (c2 : Int) (c3 : octets_Reader) : Option ((Int × Int × octets_Reader) ⊕ (octets_Reader ⊕ (Int × octets_Reader))) :=
  lt (c3.code == (0 : Int)) fun v14 =>
  if v14 = true then
    lt (((c3.b).length : Int)) fun v17 =>
    lt (decide (c2 ≥ v17)) fun v19 =>
    if v19 = true then
      (octets_Reader_Fail c3 (6 : Int)).bind fun v22 =>
      some (.inr (.inl v22))
    else
      (ix c3.b c2).bind fun v24 =>
      lt (w64 (c2 + (1 : Int))) fun v26 =>
      (
        lt (v24 == 128#8) fun v32 =>
        if v32 = true then
          lt (c1 == (0 : Int)) fun v35 =>
          if v35 = true then
            lt (w64 (c3.at_ + (1 : Int))) fun v38 =>
            lt (v26 == v38) fun v40 =>
            some v40
          else
            some false
        else
          some false
       : Option (Bool)).bind fun s27 =>
        if s27 = true then
          (octets_Reader_Fail c3 (5 : Int)).bind fun v44 =>
          some (.inl (c1, v26, v44))
        else
          lt (shr64 x1 7) fun v46 =>
          lt (decide (c1 > v46)) fun v48 =>
          if v48 = true then
            (octets_Reader_Fail c3 (2 : Int)).bind fun v51 =>
            some (.inl (c1, v26, v51))
          else
            lt (decide (128#8 ≤ v24)) fun v53 =>
            if v53 = true then
              lt (shl64 c1 7) fun v56 =>
              lt (v24 &&& 127#8) fun v58 =>
              lt ((BitVec.toNat v58 : Int)) fun v60 =>
              lt (or64 v56 v60) fun v62 =>
              some (.inl (v62, v26, c3))
            else
              lt (shl64 c1 7) fun v64 =>
              lt ((BitVec.toNat v24 : Int)) fun v66 =>
              lt (or64 v64 v66) fun v68 =>
              lt (decide (v68 > x1)) fun v70 =>
              if v70 = true then
                (octets_Reader_Fail c3 (2 : Int)).bind fun v73 =>
                some (.inl (v68, v26, v73))
              else
                lt (({ c3 with at_ := v26 } : octets_Reader)) fun c75 =>
                some (.inr (.inr (v68, c75)))
  else
    some (.inr (.inl c3))
noncomputable def octets_Reader_Number_l0 (x1 : Int) (s : Int × Int × octets_Reader) : Option (octets_Reader ⊕ (Int × octets_Reader)) := loopO (fun s => octets_Reader_Number_b0 x1 s.1 s.2.1 s.2.2) s
noncomputable def octets_Reader_Number (x0 : octets_Reader) (x1 : Int) : Option (Int × octets_Reader) :=
  (octets_Reader_Number_l0 x1 ((0 : Int), x0.at_, x0)).bind fun o4 =>
    Sum.elim (fun s11 : octets_Reader =>
      some ((0 : Int), s11)
      ) (fun y => some y) o4
end Go.Proofs.YthkfilchighbhaaDoor
namespace Go.Proofs.YthkfilchighbhaaDoor
open Go Go.Va
set_option linter.unusedVariables false
set_option linter.unusedSimpArgs false
set_option maxRecDepth 20000
noncomputable def octets_Reader_Code (x0 : octets_Reader) : Option (Int) :=
  some x0.code
end Go.Proofs.YthkfilchighbhaaDoor
namespace Go.Proofs.YthkfilchighbhaaDoor
open Go Go.Va
set_option linter.unusedVariables false
set_option linter.unusedSimpArgs false
set_option maxRecDepth 20000
noncomputable def octets_Reader_Left (x0 : octets_Reader) : Option (Int) :=
  lt (((x0.b).length : Int)) fun v2 =>
  lt (w64 (v2 - x0.at_)) fun v4 =>
  some v4
end Go.Proofs.YthkfilchighbhaaDoor
namespace Go.Proofs.YthkfilchighbhaaDoor
open Go Go.Va
set_option linter.unusedVariables false
set_option linter.unusedSimpArgs false
set_option maxRecDepth 20000
noncomputable def octets_Reader_Bytes (x0 : octets_Reader) (x1 : Int) : Option ((List (BitVec 8)) × octets_Reader) :=
  (octets_Reader_Number x0 x1).bind fun v2 =>
  lt (v2.2.code != (0 : Int)) fun v4 =>
  if v4 = true then
    some ([], v2.2)
  else
    (octets_Reader_Left v2.2).bind fun v7 =>
    lt (decide (v2.1 > v7)) fun v9 =>
    if v9 = true then
      lt (({ v2.2 with at_ := x0.at_ } : octets_Reader)) fun c12 =>
      (octets_Reader_Fail c12 (6 : Int)).bind fun v15 =>
      some ([], v15)
    else
      lt (w64 (v2.2.at_ + v2.1)) fun v17 =>
      (cutO v2.2.b v2.2.at_ v17).bind fun v19 =>
      (app 1 ([] : List (BitVec 8)) v19).bind fun v21 =>
      lt (w64 (v2.2.at_ + v2.1)) fun v25 =>
      lt (({ v2.2 with at_ := v25 } : octets_Reader)) fun c27 =>
      some (v21, c27)
end Go.Proofs.YthkfilchighbhaaDoor
namespace Go.Proofs.YthkfilchighbhaaDoor
open Go Go.Va
set_option linter.unusedVariables false
set_option linter.unusedSimpArgs false
set_option maxRecDepth 20000
noncomputable def octets_Reader_End (x0 : octets_Reader) : Option (Int × octets_Reader) :=
  (octets_Reader_Left x0).bind fun v2 =>
  lt (decide (v2 > (0 : Int))) fun v4 =>
  (
    if v4 = true then
      (octets_Reader_Fail x0 (5 : Int)).bind fun v11 =>
      some v11
    else
      some x0
   : Option (octets_Reader)).bind fun s5 =>
    some (s5.code, s5)
end Go.Proofs.YthkfilchighbhaaDoor
namespace Go.Proofs.YthkfilchighbhaaDoor
open Go Go.Va
set_option linter.unusedVariables false
set_option linter.unusedSimpArgs false
set_option maxRecDepth 20000
noncomputable def octets_Reader_At (x0 : octets_Reader) : Option (Int) :=
  some x0.at_
end Go.Proofs.YthkfilchighbhaaDoor
namespace Go.Proofs.YthkfilchighbhaaDoor
open Go Go.Va
set_option linter.unusedVariables false
set_option linter.unusedSimpArgs false
set_option maxRecDepth 20000
noncomputable def wire_Get_b0 (x0 : List (BitVec 8)) (c67 : List (BitVec 8) × Nat) (c68 : api_Msg) (c69 : octets_Reader) : Option (((List (BitVec 8) × Nat) × api_Msg × octets_Reader) ⊕ ((List (BitVec 8) × Nat) × api_Msg × octets_Reader)) :=
  (nxS c67).bind fun v80 =>
  Option.elim v80 (
    some (.inr (c67, c68, c69))
  ) (fun c82 =>
    (octets_Reader_Code c69).bind fun v84 =>
    lt (v84 != (0 : Int)) fun v86 =>
    if v86 = true then
      some (.inr ((c67.1, c67.2 + 1), c68, c69))
    else
      lt (c82 == (73 : Int)) fun v89 =>
      if v89 = true then
        (octets_Reader_Number c69 (1099511627776 : Int)).bind fun v92 =>
        lt (({ c68 with Id := v92.1 } : api_Msg)) fun c94 =>
        some (.inl ((c67.1, c67.2 + 1), c94, v92.2))
      else
        lt (c82 == (75 : Int)) fun v97 =>
        if v97 = true then
          (octets_Reader_Bytes c69 (40 : Int)).bind fun v100 =>
          lt (({ c68 with X := { c68.X with Key := v100.1 } } : api_Msg)) fun c102 =>
          some (.inl ((c67.1, c67.2 + 1), c102, v100.2))
        else
          lt (c82 == (65 : Int)) fun v105 =>
          if v105 = true then
            (octets_Reader_Number c69 (1099511627776 : Int)).bind fun v108 =>
            lt (({ c68 with X := { c68.X with AsOf := v108.1 } } : api_Msg)) fun c110 =>
            some (.inl ((c67.1, c67.2 + 1), c110, v108.2))
          else
            lt (c82 == (70 : Int)) fun v113 =>
            if v113 = true then
              (octets_Reader_Number c69 (1 : Int)).bind fun v116 =>
              lt (v116.1 == (1 : Int)) fun v118 =>
              lt (({ c68 with Found := v118 } : api_Msg)) fun c120 =>
              some (.inl ((c67.1, c67.2 + 1), c120, v116.2))
            else
              lt (c82 == (86 : Int)) fun v123 =>
              if v123 = true then
                if c68.Found = true then
                  (octets_Reader_Number c69 (1099511627776 : Int)).bind fun v127 =>
                  (octets_Reader_Number v127.2 (1099511627776 : Int)).bind fun v129 =>
                  lt (({ c68 with X := { c68.X with Version := v127.1 } } : api_Msg)) fun c131 =>
                  lt (({ c131 with X := { c131.X with Ends := v129.1 } } : api_Msg)) fun c134 =>
                  (octets_Reader_Bytes v129.2 (4096 : Int)).bind fun v137 =>
                  lt (({ c134 with X := { c134.X with Value := v137.1 } } : api_Msg)) fun c139 =>
                  some (.inl ((c67.1, c67.2 + 1), c139, v137.2))
                else
                  some (.inl ((c67.1, c67.2 + 1), c68, c69))
              else
                some (.inl ((c67.1, c67.2 + 1), c68, c69))
  )
noncomputable def wire_Get_l0 (x0 : List (BitVec 8)) (s : (List (BitVec 8) × Nat) × api_Msg × octets_Reader) : Option ((List (BitVec 8) × Nat) × api_Msg × octets_Reader) := loopO (fun s => wire_Get_b0 x0 s.1 s.2.1 s.2.2) s
noncomputable def wire_Get (x0 : List (BitVec 8)) : Option (api_Msg × Err) :=
  lt (((x0).length : Int)) fun v4 =>
  lt (decide (v4 < (4 : Int))) fun v6 =>
  if v6 = true then
    lt ((⟨(0 : Int), (0 : Int), (0 : Int), (0 : Int), (0 : Int), z_api_Entry, false⟩ : api_Msg)) fun v9 =>
    lt (((x0).length : Int)) fun v11 =>
    (trouble_New ([103#8, 101#8, 116#8] : List (BitVec 8)) v11 (6 : Int)).bind fun v13 =>
    lt ((v9 : api_Msg)) fun c15 =>
    some (c15, v13)
  else
    (checksum_Fits x0).bind fun v18 =>
    lt (!v18) fun v20 =>
    if v20 = true then
      lt ((⟨(0 : Int), (0 : Int), (0 : Int), (0 : Int), (0 : Int), z_api_Entry, false⟩ : api_Msg)) fun v23 =>
      lt (((x0).length : Int)) fun v25 =>
      (trouble_New ([103#8, 101#8, 116#8] : List (BitVec 8)) v25 (7 : Int)).bind fun v27 =>
      lt ((v23 : api_Msg)) fun c29 =>
      some (c29, v27)
    else
      lt (((x0).length : Int)) fun v32 =>
      lt (w64 (v32 - (4 : Int))) fun v34 =>
      (cutTo x0 v34).bind fun v36 =>
      (octets_Read v36).bind fun v38 =>
      (octets_Reader_Number v38 (6 : Int)).bind fun v44 =>
      (octets_Reader_Number v44.2 (16 : Int)).bind fun v46 =>
      (octets_Reader_Number v46.2 (16 : Int)).bind fun v48 =>
      (octets_Reader_Number v48.2 (1099511627776 : Int)).bind fun v50 =>
      lt (({ z_api_Msg with Kind := v44.1 } : api_Msg)) fun c52 =>
      lt (({ c52 with From := v46.1 } : api_Msg)) fun c55 =>
      lt (({ c55 with To := v48.1 } : api_Msg)) fun c58 =>
      lt (({ c58 with Epoch := v50.1 } : api_Msg)) fun c61 =>
      (wire_parts c61.Kind).bind fun v64 =>
      (wire_Get_l0 x0 ((v64, 0), c61, v50.2)).bind fun s77 =>
        (octets_Reader_End s77.2.2).bind fun v143 =>
        lt (v143.1 != (0 : Int)) fun v145 =>
        if v145 = true then
          lt ((⟨(0 : Int), (0 : Int), (0 : Int), (0 : Int), (0 : Int), z_api_Entry, false⟩ : api_Msg)) fun v148 =>
          (octets_Reader_At v143.2).bind fun v150 =>
          (trouble_New ([103#8, 101#8, 116#8] : List (BitVec 8)) v150 v143.1).bind fun v152 =>
          lt ((v148 : api_Msg)) fun c154 =>
          some (c154, v152)
        else
          (wire_Check s77.2.1).bind fun v157 =>
          lt (!Err.isNil v157) fun v159 =>
          if v159 = true then
            lt ((⟨(0 : Int), (0 : Int), (0 : Int), (0 : Int), (0 : Int), z_api_Entry, false⟩ : api_Msg)) fun v162 =>
            lt (((x0).length : Int)) fun v164 =>
            (trouble_Wrap ([103#8, 101#8, 116#8] : List (BitVec 8)) v164 v157).bind fun v166 =>
            lt ((v162 : api_Msg)) fun c168 =>
            some (c168, v166)
          else
            lt ((s77.2.1 : api_Msg)) fun c171 =>
            some (c171, Err.nil)
end Go.Proofs.YthkfilchighbhaaDoor
namespace Go.Proofs.YthkfilchighbhaaDoor
open Go Go.Va
set_option linter.unusedVariables false
set_option linter.unusedSimpArgs false
set_option maxRecDepth 20000
noncomputable def butterylaw06_Light_b0 (x0 : List api_Entry) (c6 : Int) (c7 : Int) : Option ((Int × Int) ⊕ (Unit ⊕ (Int))) :=
  lt (((x0).length : Int)) fun v18 =>
  lt (decide (c7 < v18)) fun v20 =>
  if v20 = true then
    (
      (ix x0 c7).bind fun v27 =>
      lt (((v27.Key).length : Int)) fun v29 =>
      lt (decide (v29 > (200 : Int))) fun v31 =>
      if v31 = true then
        some true
      else
        (ix x0 c7).bind fun v34 =>
        lt (((v34.Value).length : Int)) fun v36 =>
        lt (decide (v36 > (5000 : Int))) fun v38 =>
        some v38
     : Option (Bool)).bind fun s22 =>
      if s22 = true then
        some (.inr (.inr (1 : Int)))
      else
        (ix x0 c7).bind fun v43 =>
        lt (((v43.Value).length : Int)) fun v45 =>
        lt (w64 (c6 + v45)) fun v47 =>
        lt (decide (v47 > (12000 : Int))) fun v49 =>
        if v49 = true then
          some (.inr (.inr (1 : Int)))
        else
          lt (w64 (c7 + (1 : Int))) fun v53 =>
          some (.inl (v47, v53))
  else
    some (.inr (.inl ()))
noncomputable def butterylaw06_Light_l0 (x0 : List api_Entry) (s : Int × Int) : Option (Unit ⊕ (Int)) := loopO (fun s => butterylaw06_Light_b0 x0 s.1 s.2) s
noncomputable def butterylaw06_Light (x0 : List api_Entry) : Option (Int) :=
  lt (((x0).length : Int)) fun v2 =>
  lt (decide (v2 > (40 : Int))) fun v4 =>
  if v4 = true then
    some (1 : Int)
  else
    (butterylaw06_Light_l0 x0 ((0 : Int), (0 : Int))).bind fun o8 =>
      Sum.elim (fun s15 : Unit =>
        some (0 : Int)
        ) (fun y => some y) o8
end Go.Proofs.YthkfilchighbhaaDoor
namespace Go.Proofs.YthkfilchighbhaaDoor
open Go Go.Va
set_option linter.unusedVariables false
set_option linter.unusedSimpArgs false
set_option maxRecDepth 20000
noncomputable def butterylaw23_light (x0 : api_Msg) : Option (Bool) :=
  lt (([x0.X] : List api_Entry)) fun v2 =>
  (butterylaw06_Light v2).bind fun v4 =>
  lt (v4 == (0 : Int)) fun v6 =>
  some v6
end Go.Proofs.YthkfilchighbhaaDoor
namespace Go.Proofs.YthkfilchighbhaaDoor
open Go Go.Va
set_option linter.unusedVariables false
set_option linter.unusedSimpArgs false
set_option maxRecDepth 20000
noncomputable def wire_Same (x0 : api_Msg) (x1 : api_Msg) : Option (Bool) :=
  lt (x0.Kind == x1.Kind) fun v2 =>
  if v2 = true then
    lt (x0.From == x1.From) fun v5 =>
    if v5 = true then
      lt (x0.To == x1.To) fun v8 =>
      if v8 = true then
        lt (x0.Epoch == x1.Epoch) fun v11 =>
        if v11 = true then
          lt (x0.Id == x1.Id) fun v14 =>
          if v14 = true then
            lt (x0.Found == x1.Found) fun v17 =>
            if v17 = true then
              (item_Same x0.X x1.X).bind fun v20 =>
              some v20
            else
              some false
          else
            some false
        else
          some false
      else
        some false
    else
      some false
  else
    some false
end Go.Proofs.YthkfilchighbhaaDoor
namespace Go.Proofs.YthkfilchighbhaaDoor
open Go Go.Va
set_option linter.unusedVariables false
set_option linter.unusedSimpArgs false
set_option maxRecDepth 20000
noncomputable def octets_Put_b1 (x1 : List Int) (v6 : Int) (c7 : List (BitVec 8)) (c8 : Int) (v22 : Int) (c23 : Int) : Option ((Int) ⊕ (Int)) :=
  lt (w64 ((7 : Int) * c23)) fun v34 =>
  ((sc v34).map fun m => shr64 v22 m).bind fun v36 =>
  lt (decide (v36 ≥ (128 : Int))) fun v38 =>
  if v38 = true then
    lt (w64 (c23 + (1 : Int))) fun v41 =>
    some (.inl v41)
  else
    some (.inr c23)
noncomputable def octets_Put_l1 (x1 : List Int) (v6 : Int) (c7 : List (BitVec 8)) (c8 : Int) (v22 : Int) (s : Int) : Option (Int) := loopO (fun s => octets_Put_b1 x1 v6 c7 c8 v22 s) s
noncomputable def octets_Put_b2 (x1 : List Int) (v6 : Int) (c8 : Int) (v22 : Int) (c43 : List (BitVec 8)) (c44 : Int) : Option (((List (BitVec 8)) × Int) ⊕ ((List (BitVec 8)))) :=
  lt (decide (c44 > (0 : Int))) fun v55 =>
  if v55 = true then
    lt (w64 ((7 : Int) * c44)) fun v58 =>
    ((sc v58).map fun m => shr64 v22 m).bind fun v60 =>
    lt (BitVec.ofInt 8 v60) fun v62 =>
    lt (v62 ||| 128#8) fun v64 =>
    lt (([v64] : List (BitVec 8))) fun v66 =>
    (app 1 c43 v66).bind fun v68 =>
    lt (w64 (c44 - (1 : Int))) fun v72 =>
    some (.inl (v68, v72))
  else
    some (.inr c43)
noncomputable def octets_Put_l2 (x1 : List Int) (v6 : Int) (c8 : Int) (v22 : Int) (s : (List (BitVec 8)) × Int) : Option ((List (BitVec 8))) := loopO (fun s => octets_Put_b2 x1 v6 c8 v22 s.1 s.2) s
noncomputable def octets_Put_b0 (x1 : List Int) (v6 : Int) (c7 : List (BitVec 8)) (c8 : Int) : Option (((List (BitVec 8)) × Int) ⊕ ((List (BitVec 8)))) :=
  lt (decide (c8 < v6)) fun v19 =>
  if v19 = true then
    (ix x1 c8).bind fun v22 =>
    (octets_Put_l1 x1 v6 c7 c8 v22 (0 : Int)).bind fun s31 =>
      (octets_Put_l2 x1 v6 c8 v22 (c7, s31)).bind fun s52 =>
        lt (BitVec.ofInt 8 v22) fun v75 =>
        lt (v75 &&& 127#8) fun v77 =>
        lt (([v77] : List (BitVec 8))) fun v79 =>
        (app 1 s52 v79).bind fun v81 =>
        lt (w64 (c8 + (1 : Int))) fun v85 =>
        some (.inl (v81, v85))
  else
    some (.inr c7)
noncomputable def octets_Put_l0 (x1 : List Int) (v6 : Int) (s : (List (BitVec 8)) × Int) : Option ((List (BitVec 8))) := loopO (fun s => octets_Put_b0 x1 v6 s.1 s.2) s
noncomputable def octets_Put (x0 : List (BitVec 8)) (x1 : List Int) : Option ((List (BitVec 8))) :=
  (app 1 ([] : List (BitVec 8)) x0).bind fun v2 =>
  lt (((x1).length : Int)) fun v6 =>
  (octets_Put_l0 x1 v6 (v2, (0 : Int))).bind fun s16 =>
    some s16
end Go.Proofs.YthkfilchighbhaaDoor
namespace Go.Proofs.YthkfilchighbhaaDoor
open Go Go.Va
set_option linter.unusedVariables false
set_option linter.unusedSimpArgs false
set_option maxRecDepth 20000
noncomputable def octets_Bytes (x0 : List (BitVec 8)) (x1 : List (BitVec 8)) : Option ((List (BitVec 8))) :=
  lt (((x1).length : Int)) fun v2 =>
  lt (([v2] : List Int)) fun v4 =>
  (octets_Put x0 v4).bind fun v6 =>
  (app 1 v6 x1).bind fun v9 =>
  some v9
end Go.Proofs.YthkfilchighbhaaDoor
namespace Go.Proofs.YthkfilchighbhaaDoor
open Go Go.Va
set_option linter.unusedVariables false
set_option linter.unusedSimpArgs false
set_option maxRecDepth 20000
noncomputable def checksum_Seal (x0 : List (BitVec 8)) : Option ((List (BitVec 8))) :=
  (checksum_Sum x0).bind fun v2 =>
  (checksum_Four v2).bind fun v4 =>
  (stW 4 (List.replicate 4 0#8) v4).bind fun c8 =>
  (app 1 ([] : List (BitVec 8)) x0).bind fun v11 =>
  ((whole 4 c8).bind fun w => app 1 v11 w).bind fun v15 =>
  some v15
end Go.Proofs.YthkfilchighbhaaDoor
namespace Go.Proofs.YthkfilchighbhaaDoor
open Go Go.Va
set_option linter.unusedVariables false
set_option linter.unusedSimpArgs false
set_option maxRecDepth 20000
noncomputable def wire_Put_b0 (x0 : api_Msg) (c16 : List (BitVec 8)) (c17 : List (BitVec 8) × Nat) : Option (((List (BitVec 8)) × (List (BitVec 8) × Nat)) ⊕ ((List (BitVec 8)) × (List (BitVec 8) × Nat))) :=
  (nxS c17).bind fun v28 =>
  Option.elim v28 (
    some (.inr (c16, c17))
  ) (fun c30 =>
    lt (c30 == (73 : Int)) fun v32 =>
    if v32 = true then
      lt (([x0.Id] : List Int)) fun v35 =>
      (octets_Put c16 v35).bind fun v37 =>
      some (.inl (v37, (c17.1, c17.2 + 1)))
    else
      lt (c30 == (75 : Int)) fun v39 =>
      if v39 = true then
        (toBytes x0.X.Key).bind fun v42 =>
        (octets_Bytes c16 v42).bind fun v44 =>
        some (.inl (v44, (c17.1, c17.2 + 1)))
      else
        lt (c30 == (65 : Int)) fun v46 =>
        if v46 = true then
          lt (([x0.X.AsOf] : List Int)) fun v49 =>
          (octets_Put c16 v49).bind fun v51 =>
          some (.inl (v51, (c17.1, c17.2 + 1)))
        else
          lt (c30 == (70 : Int)) fun v53 =>
          if v53 = true then
            (
              if x0.Found = true then
                some (1 : Int)
              else
                some (0 : Int)
             : Option (Int)).bind fun s55 =>
              lt (([s55] : List Int)) fun v62 =>
              (octets_Put c16 v62).bind fun v64 =>
              some (.inl (v64, (c17.1, c17.2 + 1)))
          else
            lt (c30 == (86 : Int)) fun v66 =>
            if v66 = true then
              if x0.Found = true then
                lt (([x0.X.Version, x0.X.Ends] : List Int)) fun v70 =>
                (octets_Put c16 v70).bind fun v72 =>
                (octets_Bytes v72 x0.X.Value).bind fun v74 =>
                some (.inl (v74, (c17.1, c17.2 + 1)))
              else
                some (.inl (c16, (c17.1, c17.2 + 1)))
            else
              some (.inl (c16, (c17.1, c17.2 + 1)))
  )
noncomputable def wire_Put_l0 (x0 : api_Msg) (s : (List (BitVec 8)) × (List (BitVec 8) × Nat)) : Option ((List (BitVec 8)) × (List (BitVec 8) × Nat)) := loopO (fun s => wire_Put_b0 x0 s.1 s.2) s
noncomputable def wire_Put (x0 : api_Msg) : Option ((List (BitVec 8)) × Err) :=
  (wire_Check x0).bind fun v2 =>
  lt (!Err.isNil v2) fun v4 =>
  if v4 = true then
    (trouble_Wrap ([112#8, 117#8, 116#8] : List (BitVec 8)) x0.Kind v2).bind fun v7 =>
    some ([], v7)
  else
    lt (([x0.Kind, x0.From, x0.To, x0.Epoch] : List Int)) fun v9 =>
    (octets_Put [] v9).bind fun v11 =>
    (wire_parts x0.Kind).bind fun v13 =>
    (wire_Put_l0 x0 (v11, (v13, 0))).bind fun s25 =>
      (checksum_Seal s25.1).bind fun v77 =>
      some (v77, Err.nil)
end Go.Proofs.YthkfilchighbhaaDoor
namespace Go.Proofs.YthkfilchighbhaaDoor
open Go Go.Va
set_option linter.unusedVariables false
set_option linter.unusedSimpArgs false
set_option maxRecDepth 20000
noncomputable def butterylaw23_works : Option (Bool) :=
  lt ((⟨([107#8] : List (BitVec 8)), (4 : Int), (5 : Int), (0 : Int), ([118#8] : List (BitVec 8))⟩ : api_Entry)) fun v2 =>
  lt ((⟨(6 : Int), (0 : Int), (3 : Int), (2 : Int), (7 : Int), v2, true⟩ : api_Msg)) fun v4 =>
  lt ((v4 : api_Msg)) fun c8 =>
  (wire_Put c8).bind fun v11 =>
  (wire_Get v11.1).bind fun v13 =>
  lt ((v13.1 : api_Msg)) fun c17 =>
  lt ((⟨(1 : Int), (3 : Int), (0 : Int), (1 : Int), (0 : Int), z_api_Entry, true⟩ : api_Msg)) fun v20 =>
  (wire_Put v20).bind fun v22 =>
  (wire_Get ([1#8, 2#8, 3#8, 4#8, 5#8] : List (BitVec 8))).bind fun v24 =>
  lt ((v24.1 : api_Msg)) fun c28 =>
  lt (Err.isNil v11.2) fun v31 =>
  if v31 = true then
    lt (Err.isNil v13.2) fun v34 =>
    if v34 = true then
      (wire_Same c8 c17).bind fun v37 =>
      if v37 = true then
        (trouble_Of v22.2).bind fun v40 =>
        lt (v40 == (5 : Int)) fun v42 =>
        if v42 = true then
          (trouble_Of v24.2).bind fun v45 =>
          lt (v45 == (7 : Int)) fun v47 =>
          if v47 = true then
            lt (((v11.1).length : Int)) fun v50 =>
            lt (v50 == (17 : Int)) fun v52 =>
            if v52 = true then
              (wire_Check c8).bind fun v55 =>
              lt (Err.isNil v55) fun v57 =>
              some v57
            else
              some false
          else
            some false
        else
          some false
      else
        some false
    else
      some false
  else
    some false
end Go.Proofs.YthkfilchighbhaaDoor
namespace Go.Proofs.YthkfilchighbhaaDoor
open Go Go.Va
set_option linter.unusedVariables false
set_option linter.unusedSimpArgs false
set_option maxRecDepth 20000
noncomputable def checksum_SealV (x0 : List (BitVec 8)) : Option ((List (BitVec 8))) :=
  (checksum_Sum x0).bind fun v2 =>
  (checksum_Four v2).bind fun v4 =>
  (stW 4 (List.replicate 4 0#8) v4).bind fun c8 =>
  (app 1 ([] : List (BitVec 8)) x0).bind fun v11 =>
  ((whole 4 c8).bind fun w => app 1 v11 w).bind fun v16 =>
  some v16
end Go.Proofs.YthkfilchighbhaaDoor
namespace Go.Proofs.YthkfilchighbhaaDoor
open Go Go.Va
set_option linter.unusedVariables false
set_option linter.unusedSimpArgs false
set_option maxRecDepth 20000
noncomputable def wire_PutV_b0 (x0 : api_Msg) (c18 : List (BitVec 8)) (c19 : List (BitVec 8) × Nat) : Option (((List (BitVec 8)) × (List (BitVec 8) × Nat)) ⊕ ((List (BitVec 8)) × (List (BitVec 8) × Nat))) :=
  (nxS c19).bind fun v30 =>
  Option.elim v30 (
    some (.inr (c18, c19))
  ) (fun c32 =>
    lt (c32 == (73 : Int)) fun v34 =>
    if v34 = true then
      lt (([x0.Id] : List Int)) fun v37 =>
      (octets_Put c18 v37).bind fun v39 =>
      some (.inl (v39, (c19.1, c19.2 + 1)))
    else
      lt (c32 == (75 : Int)) fun v41 =>
      if v41 = true then
        (toBytes x0.X.Key).bind fun v44 =>
        (octets_Bytes c18 v44).bind fun v46 =>
        some (.inl (v46, (c19.1, c19.2 + 1)))
      else
        lt (c32 == (65 : Int)) fun v48 =>
        if v48 = true then
          lt (([x0.X.AsOf] : List Int)) fun v51 =>
          (octets_Put c18 v51).bind fun v53 =>
          some (.inl (v53, (c19.1, c19.2 + 1)))
        else
          lt (c32 == (70 : Int)) fun v55 =>
          if v55 = true then
            (
              if x0.Found = true then
                some (1 : Int)
              else
                some (0 : Int)
             : Option (Int)).bind fun s57 =>
              lt (([s57] : List Int)) fun v64 =>
              (octets_Put c18 v64).bind fun v66 =>
              some (.inl (v66, (c19.1, c19.2 + 1)))
          else
            lt (c32 == (86 : Int)) fun v68 =>
            if v68 = true then
              if x0.Found = true then
                lt (([x0.X.Version, x0.X.Ends] : List Int)) fun v72 =>
                (octets_Put c18 v72).bind fun v74 =>
                (octets_Bytes v74 x0.X.Value).bind fun v76 =>
                some (.inl (v76, (c19.1, c19.2 + 1)))
              else
                some (.inl (c18, (c19.1, c19.2 + 1)))
            else
              some (.inl (c18, (c19.1, c19.2 + 1)))
  )
noncomputable def wire_PutV_l0 (x0 : api_Msg) (s : (List (BitVec 8)) × (List (BitVec 8) × Nat)) : Option ((List (BitVec 8)) × (List (BitVec 8) × Nat)) := loopO (fun s => wire_PutV_b0 x0 s.1 s.2) s
noncomputable def wire_PutV (x0 : api_Msg) : Option ((List (BitVec 8)) × Err) :=
  (wire_Check x0).bind fun v2 =>
  lt (!Err.isNil v2) fun v4 =>
  if v4 = true then
    (trouble_Wrap ([112#8, 117#8, 116#8] : List (BitVec 8)) x0.Kind v2).bind fun v7 =>
    some (([] : List (BitVec 8)), v7)
  else
    lt (([x0.Kind, x0.From, x0.To, x0.Epoch] : List Int)) fun v11 =>
    (octets_Put [] v11).bind fun v13 =>
    (wire_parts x0.Kind).bind fun v15 =>
    (wire_PutV_l0 x0 (v13, (v15, 0))).bind fun s27 =>
      (checksum_SealV s27.1).bind fun v79 =>
      some (v79, Err.nil)
end Go.Proofs.YthkfilchighbhaaDoor
namespace Go.Proofs.YthkfilchighbhaaDoor
open Go Go.Va
set_option linter.unusedVariables false
set_option linter.unusedSimpArgs false
set_option maxRecDepth 20000
noncomputable def butterylaw23_WireTurned_b0 (x2 : BitVec 32) (v48 : Int) (c49 : List (BitVec 8)) (c50 : Int) : Option (((List (BitVec 8)) × Int) ⊕ ((List (BitVec 8)))) :=
  lt (decide (c50 < (32 : Int))) fun v61 =>
  if v61 = true then
    ((sc c50).map fun m => x2 >>> m).bind fun v64 =>
    lt (v64 &&& 1#32) fun v66 =>
    lt (v66 == 1#32) fun v68 =>
    if v68 = true then
      lt (w64 (v48 + c50)) fun v71 =>
      lt (quo64 v71 (8 : Int)) fun v73 =>
      lt (w64 (v48 + c50)) fun v75 =>
      lt (quo64 v75 (8 : Int)) fun v77 =>
      (chk (c49).length v77).bind fun v79 =>
      (ixA (c49).length c49 v77).bind fun v81 =>
      lt (w64 (v48 + c50)) fun v83 =>
      lt (Int.tmod v83 (8 : Int)) fun v85 =>
      ((sc v85).map fun m => 1#8 <<< m).bind fun v87 =>
      lt (v81 ^^^ v87) fun v89 =>
      (chk (c49).length v73).bind fun v91 =>
      (updA (c49).length c49 v73 (fun _ => v89)).bind fun c93 =>
      lt (w64 (c50 + (1 : Int))) fun v96 =>
      some (.inl (c93, v96))
    else
      lt (w64 (c50 + (1 : Int))) fun v98 =>
      some (.inl (c49, v98))
  else
    some (.inr c49)
noncomputable def butterylaw23_WireTurned_l0 (x2 : BitVec 32) (v48 : Int) (s : (List (BitVec 8)) × Int) : Option ((List (BitVec 8))) := loopO (fun s => butterylaw23_WireTurned_b0 x2 v48 s.1 s.2) s
noncomputable def butterylaw23_WireTurned (x0 : api_Msg) (x1 : BitVec 16) (x2 : BitVec 32) : Option (Bool) :=
  (
    (butterylaw23_light x0).bind fun v6 =>
    lt (!v6) fun v8 =>
    if v8 = true then
      some true
    else
      (butteryref23_Check x0).bind fun v11 =>
      lt (v11 != (0 : Int)) fun v13 =>
      if v13 = true then
        some true
      else
        lt (x2 == 0#32) fun v16 =>
        some v16
   : Option (Bool)).bind fun s1 =>
    if s1 = true then
      (butterylaw23_works).bind fun v20 =>
      some v20
    else
      (wire_PutV x0).bind fun v22 =>
      (
        lt (!Err.isNil v22.2) fun v31 =>
        if v31 = true then
          some true
        else
          lt ((((v22.1).length : Nat) : Int)) fun v34 =>
          lt (decide (v34 < (4 : Int))) fun v36 =>
          some v36
       : Option (Bool)).bind fun s26 =>
        if s26 = true then
          some false
        else
          lt ((BitVec.toNat x1 : Int)) fun v40 =>
          lt ((((v22.1).length : Nat) : Int)) fun v42 =>
          lt (w64 ((8 : Int) * v42)) fun v44 =>
          lt (w64 (v44 - (31 : Int))) fun v46 =>
          ((dv v46).map fun m => Int.tmod v40 m).bind fun v48 =>
          (butterylaw23_WireTurned_l0 x2 v48 (v22.1, (0 : Int))).bind fun s58 =>
            (wire_Get s58).bind fun v102 =>
            lt ((v102.1 : api_Msg)) fun c106 =>
            (trouble_Of v102.2).bind fun v109 =>
            lt (v109 == (7 : Int)) fun v111 =>
            if v111 = true then
              lt ((⟨(0 : Int), (0 : Int), (0 : Int), (0 : Int), (0 : Int), z_api_Entry, false⟩ : api_Msg)) fun v114 =>
              (butteryref23_Same c106 v114).bind fun v116 =>
              if v116 = true then
                (butterylaw23_works).bind fun v119 =>
                some v119
              else
                some false
            else
              some false
end Go.Proofs.YthkfilchighbhaaDoor
