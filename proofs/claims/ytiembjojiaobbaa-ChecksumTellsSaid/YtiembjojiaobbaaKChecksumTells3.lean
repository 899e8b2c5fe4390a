/- SPOILT BYTES ARE TOLD: of bytes with their sum behind, of which some bits within 32 side by side were turned, the sum does not fit. (part 3 of 4) -/
import Derived.Test.YtiembjojiaobbaaKChecksumTells2
import Derived.Carry
import Derived.ChangeArms
import Derived.ChangeOld
import Derived.KernelRfl
import Derived.Test.YtiembjojiaobbaaProg
import Derived.WideShapes
namespace Go.Va
open Go Go.RowKit
set_option linter.unusedVariables false
set_option linter.unusedSimpArgs false
/-- What is known of a ghost where a variable's cells never change any more. -/
noncomputable def Ghost.frz (G : Ghost) (b : Nat) (vs : List Value) (t top en : Nat) : Ghost :=
  { G with fz := fun x o => if x = b then vs[o]? else G.fz x o, tok := fun i => if i = t then some (b, top, en) else G.tok i, nt := t + 1 }
theorem Inv.freeze {w0 : World} {G : Ghost} {w : World} {σ : St} (h : Inv w0 G w σ) {id b : Nat} {cells : List AV} (hc : σ.objs[id]? = some cells) (hl : G.loc id = some b) (hne : cells ≠ []) (top en : Nat) (htop : top ≤ cells.length) (hen : en ≤ G.bsz id) :
    ∃ vs, RelL G vs (cells.take top) ∧ (∀ v ∈ vs, v.oneCell' = true) ∧ G.Le (G.frz b vs σ.opn.length top en) ∧ Inv w0 (G.frz b vs σ.opn.length top en) w ⟨σ.objs.set id [], σ.opn ++ [true], σ.gl⟩ := by
  obtain ⟨b', T, vs, k1, k2, k3, k4, k5, k6⟩ := h.loc id cells hc hne
  rw [hl] at k1
  injection k1 with k1
  subst k1
  have hidlt : id < σ.objs.length := h.locdom id b hl
  have hfzb : ∀ o, G.fz b o = none := fun o => h.locfz id b o cells hl hc hne
  have htn : ∀ t x, G.tok t = some x → t ≠ σ.opn.length := fun t x ht => by have := h.tokdom t x ht; omega
  have hvl : (vs.toList.take top).length = top := by have := k4.le; simp; omega
  have h1 : ∀ v ∈ vs.toList.take top, v.oneCell' = true := fun v hv => k5 v (List.mem_of_mem_take hv)
  have hle : G.Le (G.frz b (vs.toList.take top) σ.opn.length top en) :=
    ⟨fun x o v hf => by
      simp only [Ghost.frz]
      rw [if_neg (fun he => by subst he; rw [hfzb o] at hf; cases hf)]
      exact hf, fun _ _ h => h, fun t x ht => by simp [Ghost.frz, htn t x ht, ht], by simp only [Ghost.frz]; have := h.nt; omega, fun _ h => h, fun _ _ _ => rfl⟩
  have key : ∀ (i : Nat) (c : List AV), (σ.objs.set id [])[i]? = some c → c ≠ [] → σ.objs[i]? = some c ∧ i ≠ id := by
    intro i c hc hn
    rw [List.getElem?_set] at hc
    split at hc
    · first
        | (cases hc; exact absurd rfl hn)
        | (split at hc
           · cases hc; exact absurd rfl hn
           · cases hc)
    · rename_i he; exact ⟨hc, Ne.symm he⟩
  have hb : ∀ (i : Nat) (c : List AV), (σ.objs.set id [])[i]? = some c → c ≠ [] → ∀ x, G.loc i = some x → x ≠ b := by
    intro i c hc' hn x hx he
    subst he
    obtain ⟨a1, a2⟩ := key i c hc' hn
    exact a2 (h.locinj i id x c cells hx hl a1 hc hn hne)
  have htok : ∀ t x, σ.opn[t]? = some true → G.tok t = some x → x.1 ≠ b := by
    intro t x ho ht he
    obtain ⟨_, _, _, e4⟩ := h.tok t x.1 x.2.1 x.2.2 ho ht
    exact hne (Option.some.inj ((e4 id (he ▸ hl)).symm.trans hc)).symm
  have htk : ∀ t x, (σ.opn ++ [true])[t]? = some true → (G.frz b (vs.toList.take top) σ.opn.length top en).tok t = some x → (t = σ.opn.length ∧ x = (b, top, en)) ∨ (σ.opn[t]? = some true ∧ G.tok t = some x) := by
    intro t x ho ht
    simp only [Ghost.frz] at ht
    split at ht
    · rename_i he; cases ht; exact .inl ⟨he, rfl⟩
    · have hlt := h.tokdom t x ht
      rw [List.getElem?_append_left hlt] at ho
      exact .inr ⟨ho, ht⟩
  have hrel : RelL G (vs.toList.take top) (cells.take top) := by
    have := k4.rel.take top
    rwa [List.take_take, Nat.min_eq_left htop] at this
  refine ⟨vs.toList.take top, hrel, h1, hle, ⟨h.below, fun x o v hf => ?_, fun i c hc' hn => ?_, fun i x o c hl' hc' hn => ?_, h.loclt, fun i x hl' => by simpa using h.locdom i x hl', fun i j x c d hi hj hc' hd hn hn' => h.locinj i j x c d hi hj (key i c hc' hn).1 (key j d hd hn').1 hn hn', fun t x top' en' ho ht => ?_, fun t x ht => ?_, fun t t' x x' a1 a2 a3 a4 a5 => ?_, by simp [Ghost.frz], fun x hx => ?_, h.gl⟩⟩
  · simp only [Ghost.frz] at hf
    split at hf
    · rename_i he; subst he
      refine ⟨?_, h1 v (List.mem_iff_getElem?.2 ⟨o, hf⟩)⟩
      rw [cell_of_row _ _ _ vs T (0, 0) k3]
      rw [List.getElem?_take] at hf
      split at hf
      · simpa using hf
      · cases hf
    · exact h.fz x o v hf
  · obtain ⟨a1, a2⟩ := key i c hc' hn
    obtain ⟨b', T', vs', f1, f2, f3, f4, f5, f6⟩ := h.loc i c a1 hn
    exact ⟨b', T', vs', f1, f2, f3, f4.mono hle, f5, f6⟩
  · have hxb := hb i c hc' hn x hl'
    simp only [Ghost.frz]
    rw [if_neg hxb]
    exact h.locfz i x o c hl' (key i c hc' hn).1 hn
  · rcases htk t _ ho ht with ⟨rfl, he⟩ | ⟨ho', ht'⟩
    · injection he with e1 e2
      injection e2 with e2 e3
      subst e1; subst e2; subst e3
      refine ⟨k2, ⟨vs, T, k3, by omega⟩, fun o ho => ?_, fun i hi => ?_⟩
      · simp only [Ghost.frz, if_true]
        rw [List.getElem?_eq_none]
        omega
      · rw [List.getElem?_set]
        split
        · first | rfl | rw [if_pos hidlt]
        · rename_i hne2
          have hilt := h.locdom i x hi
          by_cases hz : σ.objs[i] = []
          · rw [List.getElem?_eq_getElem hilt, hz]
          · exact absurd (h.locinj i id x _ cells hi hl (List.getElem?_eq_getElem hilt) hc hz hne) (Ne.symm hne2)
    · obtain ⟨f1, f2, f3, f4⟩ := h.tok t x top' en' ho' ht'
      have hxb : x ≠ b := htok t _ ho' ht'
      refine ⟨f1, f2, fun o ho => ?_, fun i hi => ?_⟩
      · simp only [Ghost.frz]
        rw [if_neg hxb]
        exact f3 o ho
      · rw [List.getElem?_set]
        split
        · first | rfl | rw [if_pos hidlt]
        · exact f4 i hi
  · simp only [Ghost.frz] at ht
    split at ht
    · simp; omega
    · have := h.tokdom t x ht; simp; omega
  · rcases htk t x a1 a3 with ⟨e1, rfl⟩ | ⟨e1, e2⟩ <;> rcases htk t' x' a2 a4 with ⟨f1, rfl⟩ | ⟨f1, f2⟩
    · omega
    · exact absurd a5.symm (htok t' x' f1 f2)
    · exact absurd a5 (htok t x e1 e2)
    · exact h.tokinj t t' x x' e1 f1 e2 f2 a5
  · obtain ⟨f1, f2, f3, f4⟩ := h.lit x hx
    refine ⟨f1, f2, f3, fun t y ho ht => ?_⟩
    rcases htk t y ho ht with ⟨_, rfl⟩ | ⟨e1, e2⟩
    · exact fun he => f3 id (he ▸ hl)
    · exact f4 t y e1 e2
/-- The value of such a variable. -/
theorem frozen_rel {w0 : World} {G : Ghost} {w : World} {σ : St} (hI : Inv w0 G w σ) {id sz n : Nat} {v : Value} (hv : Rel G v (.vec id sz n)) {es : List AV} (hc : σ.objs[id]? = some (flat es)) (hn : n = es.length) (hz : ∀ e ∈ es, e.cells.length = sz) (hs : sz ≠ 0) :
    ∃ G', G.Le G' ∧ Inv w0 G' w ⟨σ.objs.set id [], σ.opn ++ [true], σ.gl⟩ ∧ Rel G' v (.sl (.own σ.opn.length) sz es) := by
  have hfl := flat_length hz
  cases hv with
  | vec0 A _ _ =>
    have hnil : es = [] := List.eq_nil_of_length_eq_zero hn.symm
    subst hnil
    obtain ⟨hle, hI'⟩ := (hI.kill id).closed .no
    exact ⟨_, hle, hI', .sl0 A 0 _ _ (Nat.zero_le _) (.inr ⟨rfl, Nat.lt_succ_self _⟩)⟩
  | vec _ _ _ c b h0 hc' hm hl hbs =>
    have hne : flat es ≠ [] := fun he => by
      have h2 : (flat es).length = 0 := by rw [he]; rfl
      rw [hfl] at h2
      rcases Nat.mul_eq_zero.1 h2 with h | h
      · omega
      · exact hs h
    obtain ⟨vs, k1, k2, hle, hI'⟩ := hI.freeze hc hl hne (flat es).length (c * sz) (Nat.le_refl _) hbs
    rw [List.take_length] at k1
    refine ⟨_, hle, hI', ?_⟩
    have key := Rel.mkSl (G := G.frz b vs σ.opn.length (flat es).length (c * sz)) (b := b) (o := 0) (c := c) (sz := sz) (t := .own σ.opn.length) (es := es) (news := vs) (by omega) hm hz (k1.mono hle) (fun j u hu => by
      simp only [Ghost.frz, if_true, Nat.zero_add]; exact hu) ⟨by simp [Ghost.frz], .inr (by simp only [Ghost.frz, if_true, Nat.zero_add]; rw [hfl])⟩
    rw [hn]
    exact key
section
variable {P : Program} {Ty : TypeId → Option TI} {n : Nat} {σ : St} {ops : Array Oper}
theorem AWP.frz0 {c : Code} {Q : AExit → (Nat → AV) → St → Prop} {l : List (Nat × AV)} (t : Nat) {id sz m : Nat} {es : List AV} (ht : Va.fm l t = .vec id sz m) (hc : σ.objs[id]? = some (flat es)) (hm : m = es.length) (hz : ∀ e ∈ es, e.cells.length = sz) (hs : sz ≠ 0)
    (h : AWP P n c Q (Va.fm ((t, .sl (.own σ.opn.length) sz es) :: l)) ⟨σ.objs.set id [], σ.opn ++ [true], σ.gl⟩) : AWP P n c Q (Va.fm l) σ := fun w0 G a w hS => by
  have hr := hS.frm t
  rw [ht] at hr
  obtain ⟨G', hle, hI, hv⟩ := frozen_rel hS.inv hr hc hm hz hs
  refine wp_mono (h w0 G' a w ⟨hI, fun u => ?_, hS.size, hS.defers⟩) ?_
  · simp only [Va.fm, upd]
    split
    · rename_i e; subst e; exact hv
    · exact (hS.frm u).mono hle
  · rintro e a' w' ⟨ae, fr', σ', G2, k1, k2, k3, k4⟩
    exact ⟨ae, fr', σ', G2, k1, hle.trans k2, k3, k4⟩
/-- Nil as a variable. -/
theorem AWP.vec0 {c : Code} {Q : AExit → (Nat → AV) → St → Prop} {l : List (Nat × AV)} (t sz : Nat) (ht : Va.fm l t = .nils ∨ Va.fm l t = .sl .full sz [])
    (h : AWP P n c Q (Va.fm ((t, .vec σ.objs.length sz 0) :: l)) ⟨σ.objs ++ [[]], σ.opn, σ.gl⟩) : AWP P n c Q (Va.fm l) σ := fun w0 G a w hS => by
  refine wp_mono (h w0 G a w ⟨hS.inv.addNone, fun u => ?_, hS.size, hS.defers⟩) (fun _ _ _ h => h)
  simp only [Va.fm, upd]
  split
  · rename_i e
    subst e
    have hr := hS.frm u
    rcases ht with ht | ht
    · rw [ht] at hr
      cases hv : a.tmps.getD u undef <;> rw [hv] at hr <;> cases hr
      exact .vec0 _ _ _
    · rw [ht] at hr
      generalize a.tmps.getD u undef = v at hr
      cases hr with
      | sl b o c t sz es val hc hm hz hf h ht => 
        have := ht.1
        simp at this
        subst this
        exact .vec0 _ _ _
      | sl0 A c t sz hm ht =>
        obtain rfl := (ht.resolve_left (by simp)).1
        exact .vec0 _ _ _
  · exact hS.frm u
end
theorem set_erase {α : Type} : ∀ (O : List α) (k : Nat), (O.eraseIdx k).Sublist O
  | [], _ => by simp
  | a :: O, 0 => by simp
  | a :: O, k + 1 => by simp only [List.eraseIdx_cons_succ]; exact (set_erase O k).cons_cons a
theorem mem_erase_dist {O : List (Nat × List AV)} (hd : O.Pairwise fun p q => p.1 ≠ q.1) : ∀ {k : Nat} {id : Nat} {c : List AV}, O[k]? = some (id, c) → ∀ p ∈ O.eraseIdx k, p.1 ≠ id := by
  induction hd with
  | nil => intro k id c h; simp at h
  | cons hh ht ih =>
    intro k id c h p hp
    cases k with
    | zero =>
      simp at h hp
      subst h
      exact Ne.symm (hh p hp)
    | succ k =>
      simp only [List.eraseIdx_cons_succ, List.mem_cons] at hp
      simp at h
      rcases hp with rfl | hp
      · exact hh _ (List.mem_of_getElem? h)
      · exact ih h p hp
/-- A new variable is not known any more; what it holds may be anything. -/
theorem Holds.gone {σ0 σ : St} {O : List (Nat × List AV)} {A : List Nat} (h : Holds σ0 O A σ) (k : Nat) {id : Nat} {c : List AV} (hk : O[k]? = some (id, c)) (hn : σ0.objs.length ≤ id) (c' : List AV) : Holds σ0 (O.eraseIdx k) A ⟨σ.objs.set id c', σ.opn, σ.gl⟩ := by
  have hsub := set_erase O k
  refine ⟨fun i d h1 h2 => ?_, h.opn, by simpa using h.olen, h.tlen, fun p hp => ?_, h.dist.sublist hsub, h.tok, h.tdist, h.gl⟩
  · have hi := (List.getElem?_eq_some_iff.1 h1).1
    simp only
    rw [List.getElem?_set_ne (by omega)]
    refine h.base i d h1 (fun p hp => ?_)
    by_cases hpi : p.1 = i
    · obtain ⟨j, hj⟩ := List.mem_iff_getElem?.1 hp
      by_cases hjk : j = k
      · subst hjk; rw [hk] at hj; cases hj; omega
      · refine h2 p (List.mem_eraseIdx_iff_getElem?.2 ⟨j, hjk, hj⟩)
    · exact hpi
  · simp only
    rw [List.getElem?_set_ne (Ne.symm (mem_erase_dist h.dist hk p hp))]
    exact h.obj p (hsub.subset hp)
/-- One is dropped wherever it stands. -/
theorem Holds.dropAt {σ0 σ : St} {O : List (Nat × List AV)} {A : List Nat} (h : Holds σ0 O A σ) (k : Nat) {id : Nat} {c : List AV} (hk : O[k]? = some (id, c)) (hn : σ0.objs.length ≤ id) : Holds σ0 (O.eraseIdx k) A σ := by
  have := h.gone k hk hn c
  have e : σ.objs.set id c = σ.objs := by
    obtain ⟨hlt, hg⟩ := List.getElem?_eq_some_iff.1 (h.at_ k hk)
    rw [← hg, List.set_getElem_self]
  rwa [e] at this
/-- A new variable has another name. -/
theorem Holds.renew {σ0 σ : St} {O : List (Nat × List AV)} {A : List Nat} (h : Holds σ0 O A σ) (k : Nat) {id : Nat} {c : List AV} (hk : O[k]? = some (id, c)) (hn : σ0.objs.length ≤ id) (c' : List AV) : Holds σ0 (O.set k (σ.objs.length, c')) A ⟨σ.objs.set id [] ++ [c'], σ.opn, σ.gl⟩ := by
  have h1 := (h.gone k hk hn []).add c'
  simp only [List.length_set] at h1
  have hkl : k < O.length := (List.getElem?_eq_some_iff.1 hk).1
  refine h1.pick (fun p hp => ?_) ?_ (fun p hp => ?_) (fun t ht => ht) h1.tdist
  · obtain ⟨j, hj⟩ := List.mem_iff_getElem?.1 hp
    by_cases hjk : k = j
    · subst hjk
      rw [List.getElem?_set_self hkl] at hj
      cases hj
      exact List.mem_cons_self
    · rw [List.getElem?_set_ne hjk] at hj
      exact List.mem_cons_of_mem _ (List.mem_eraseIdx_iff_getElem?.2 ⟨j, Ne.symm hjk, hj⟩)
  · have key : ∀ (i : Nat) (y : Nat × List AV), O[i]? = some y → σ.objs.length ≠ y.1 := fun i y hi => by
      have := (List.getElem?_eq_some_iff.1 (h.obj y (List.mem_of_getElem? hi))).1
      omega
    refine pairwise_set (fun a b h => Ne.symm h) k h.dist (fun y => ?_) (fun i y hi _ => key i y hi)
    by_cases hy : y ∈ O
    · obtain ⟨i, hi⟩ := List.mem_iff_getElem?.1 hy
      exact .inl (key i y hi)
    · exact .inr (.inr hy)
  · right
    rcases List.mem_cons.1 hp with rfl | hp
    · exact ⟨_, List.mem_iff_getElem?.2 ⟨k, by rw [List.getElem?_set_self hkl]⟩, rfl⟩
    · obtain ⟨j, hjk, hj⟩ := List.mem_eraseIdx_iff_getElem?.1 hp
      exact ⟨p, List.mem_iff_getElem?.2 ⟨j, by rw [List.getElem?_set_ne (Ne.symm hjk)]; exact hj⟩, rfl⟩
section
variable {P : Program} {Ty : TypeId → Option TI} {n : Nat} {σ : St} {ops : Array Oper} {σ0 : St} {O : List (Nat × List AV)} {A : List Nat} {fr : Nat → AV} {d : Option Tmp} {ty : TypeId} {pos : String} {af : Array Edge} {g : Option (Nat × Bool)} {ox oy oi : Operand} {T T' E U : TypeId} {α : Type} {e : α → AV} {sz : Nat}
theorem AWP.frz {c : Code} {Q : AExit → (Nat → AV) → St → Prop} {l : List (Nat × AV)} (hH : Holds σ0 O A σ) (k t : Nat) {id m : Nat} {x : List α} (hk : O[k]? = some (id, cL e x)) (hn : σ0.objs.length ≤ id) (he : Enc Ty E sz e) (ht : Va.fm l t = .vec id sz m) (hm : x.length = m)
    (h : ∀ tk τ, Holds σ0 (O.eraseIdx k) (tk :: A) τ → AWP P n c Q (Va.fm ((t, eT tk sz e x) :: l)) τ) : AWP P n c Q (Va.fm l) σ := by
  refine AWP.frz0 t (es := x.map e) ht (hH.at_ k hk) (by rw [List.length_map]; exact hm.symm) (fun y hy => by obtain ⟨z, _, rfl⟩ := List.mem_map.1 hy; exact he.len z) he.pos ?_
  exact h _ _ (hH.gone k hk hn []).more
theorem AWP.vecN {c : Code} {Q : AExit → (Nat → AV) → St → Prop} {l : List (Nat × AV)} (hH : Holds σ0 O A σ) (t sz : Nat) (ht : Va.fm l t = .nils ∨ Va.fm l t = .sl .full sz [])
    (h : ∀ id τ, Holds σ0 ((id, []) :: O) A τ → σ0.objs.length ≤ id → AWP P n c Q (Va.fm ((t, .vec id sz 0) :: l)) τ) : AWP P n c Q (Va.fm l) σ :=
  AWP.vec0 t sz ht (h _ _ (hH.add []) hH.olen)
theorem srcC_of {m : List α} {a : AV} (he : Enc Ty E sz e) (h : SrcOk Ty U sz σ a (m.map e)) (hn : ∀ id off k, a ≠ .msl id off k) : srcC Ty U sz σ a = some (m.length, cL e m) := by
  unfold SrcOk at h
  have gen : (srcOf Ty U sz σ a).map (fun ys => (ys.length, flat ys)) = some (m.length, cL e m) := by rw [h]; simp [cL]
  cases a with
  | msl id off k => exact absurd rfl (hn id off k)
  | vec id z k => simp [srcOf] at h
  | vc id z o k c => simp [srcOf] at h
  | _ => exact gen
/-- What is appended to a variable. -/
def SrcV (Ty : TypeId → Option TI) (U : TypeId) (sz : Nat) (σ : St) (a : AV) (n : Nat) (cs : List AV) : Prop := srcC Ty U sz σ a = some (n, cs)
theorem srv_l {k : Tok} {l : List α} {a : AV} (he : Enc Ty E sz e) (hd : tdOf Ty U = .slice E) (hx : a = .sl k sz (l.map e)) : SrcV Ty U sz σ a l.length (cL e l) :=
  srcC_of he (src_l hd hx) (fun _ _ _ => by rw [hx]; simp)
theorem srv_nil {a : AV} (he : Enc Ty E sz e) (hd : tdOf Ty U = .slice E) (hx : a = .nils) : SrcV Ty U sz σ a ([] : List α).length (cL e []) :=
  srcC_of he (src_nil hd hx) (fun _ _ _ => by rw [hx]; simp)
theorem srv_s {l : List (BitVec 8)} {a : AV} (he : Enc Ty E 1 (eU .u8 (w := 8))) (hd : tdOf Ty U = .str) (hx : a = eS l) : SrcV Ty U 1 σ a l.length (cL (eU .u8) l) :=
  srcC_of he (src_s hd hx) (fun _ _ _ => by rw [hx]; simp [eS])
theorem srv_arr (hH : Holds σ0 O A σ) (k : Nat) {id m : Nat} {l : List α} {a : AV} (hk : O[k]? = some (id, cL e l)) (he : Enc Ty E sz e) (hd : tdOf Ty U = .slice E) (hl : l.length = m) (hx : a = .msl id 0 m) : SrcV Ty U sz σ a l.length (cL e l) := by
  subst hx
  have hlen := cL_length he.len l
  simp only [SrcV, srcC, partOf, hd, hH.at_ k hk]
  rw [if_pos (by rw [hlen, hl]; omega), List.drop_zero, List.take_of_length_le (by rw [hlen, hl]; exact Nat.le_refl _), hl]
theorem cL_append (l m : List α) : cL e (l ++ m) = cL e l ++ cL e m := by simp [cL, flat_append]
theorem h_appV (hT : TyOk P Ty) (hH : Holds σ0 O A σ) (k : Nat) {i : TI} {id q : Nat} {l m z : List α} (h : app i.bytes l m = some z) (hk : O[k]? = some (id, cL e l)) (hn : σ0.objs.length ≤ id) (he : Enc Ty E sz e) (hd : tdOf Ty T = .slice E) (hi : Ty E = some i) (hsz : i.sz = sz) (hb : 0 < i.bytes) (hx : aeval fr ox = .vec id sz q) (hq : l.length = q) (hs : SrcV Ty U sz σ (aeval fr oy) m.length (cL e m)) :
    ∃ b τ, OpS P ⟨d, .call ⟨.builtin .append, #[ox, oy], #[T, U]⟩, ty, pos, af, g⟩ fr σ (fun a' τ' => a' = (fun b => AV.vec b sz z.length) b ∧ τ' = τ) ∧ (Holds σ0 (O.set k (b, cL e z)) A τ ∧ σ0.objs.length ≤ b) := by
  obtain ⟨h1, rfl⟩ := app_some h
  subst hq
  refine ⟨_, _, OpS.of_aop2 hT rfl (aeval fr) (fun x _ => Wk.refl _) (a := .vec σ.objs.length sz (l.length + m.length)) (σ' := ⟨σ.objs.set id [] ++ [cL e l ++ cL e m], σ.opn, σ.gl⟩) ?_ (.of_eq (by rw [List.length_append])), ?_⟩
  · unfold SrcV at hs
    simp only [aop2, hx, aappendV, hd, hi, hH.at_ k hk]
    rw [hsz, hs]
    simp only
    rw [if_pos ⟨trivial, Nat.pos_of_ne_zero he.pos, cL_length he.len l, hb, h1⟩]
  · rw [← cL_append]
    exact ⟨hH.renew k hk hn _, hH.olen⟩
theorem wk_vec0n (id sz : Nat) : Wk .nils (.vec id sz 0) := fun G v h => by cases h; exact .vec0 _ _ _
theorem wk_vec0f (id sz : Nat) : Wk (.sl .full sz []) (.vec id sz 0) := fun G v hr => by
  cases hr with
  | sl b o c t sz es val hc hm hz hf h ht => 
    have := ht.1
    simp at this
    subst this
    exact .vec0 _ _ _
  | sl0 A c t sz hm ht =>
    obtain rfl := (ht.resolve_left (by simp)).1
    exact .vec0 _ _ _
/-- Behind a state with one more variable that is nowhere. -/
theorem OpS.addNone {o : Oper} {K : AV → St → Prop} (h : OpS P o fr ⟨σ.objs ++ [[]], σ.opn, σ.gl⟩ K) : OpS P o fr σ K :=
  fun w0 G act w Q K' hI hr hK => h w0 G act w Q K' hI.addNone hr hK
theorem SrcV.addNone {a : AV} {m : Nat} {cs : List AV} (h : SrcV Ty U sz σ a m cs) : SrcV Ty U sz ⟨σ.objs ++ [[]], σ.opn, σ.gl⟩ a m cs := by
  have key : ∀ id off k (r : Nat × List AV), partOf Ty U sz id off k σ = some r → partOf Ty U sz id off k ⟨σ.objs ++ [[]], σ.opn, σ.gl⟩ = some r := by
    intro id off k r hr
    unfold partOf at hr ⊢
    split at hr
    case h_2 => cases hr
    rename_i e cells hd hc
    simp only [hd]
    rw [List.getElem?_append_left (List.getElem?_eq_some_iff.1 hc).1, hc]
    exact hr
  unfold SrcV at *
  cases a with
  | msl id off k => exact key id off k _ h
  | vec id z k =>
    simp only [srcC] at h ⊢
    split at h
    · rename_i hz; rw [if_pos hz]; exact key id 0 k _ h
    · cases h
  | vc id z o k c =>
    simp only [srcC] at h ⊢
    split at h
    · rename_i hz; rw [if_pos hz]; exact key id o k _ h
    · cases h
  | _ => exact h
theorem h_appV0 (hT : TyOk P Ty) (hH : Holds σ0 O A σ) {i : TI} {m z : List α} (h : app i.bytes ([] : List α) m = some z) (he : Enc Ty E sz e) (hd : tdOf Ty T = .slice E) (hi : Ty E = some i) (hsz : i.sz = sz) (hb : 0 < i.bytes) (hne : oy ≠ ox) (hx : aeval fr ox = .nils ∨ aeval fr ox = .sl .full sz []) (hs : SrcV Ty U sz σ (aeval fr oy) m.length (cL e m)) :
    ∃ b τ, OpS P ⟨d, .call ⟨.builtin .append, #[ox, oy], #[T, U]⟩, ty, pos, af, g⟩ fr σ (fun a' τ' => a' = (fun b => AV.vec b sz z.length) b ∧ τ' = τ) ∧ (Holds σ0 ((b, cL e z) :: O) A τ ∧ σ0.objs.length ≤ b) := by
  obtain ⟨h1, hzm⟩ := app_some h
  obtain rfl : z = m := hzm
  have hw : Wk (aeval fr ox) (.vec σ.objs.length sz 0) := by
    rcases hx with hx | hx <;> rw [hx]
    · exact wk_vec0n _ _
    · exact wk_vec0f _ _
  have hs' := hs.addNone
  unfold SrcV at hs'
  classical
  refine ⟨_, _, OpS.addNone (OpS.of_aop2 hT rfl (fun x => if x = ox then .vec σ.objs.length sz 0 else aeval fr x) (fun x _ => ?_) (a := .vec (σ.objs.length + 1) sz (0 + z.length)) (b := .vec (σ.objs.length + 1) sz z.length) (σ' := ⟨(σ.objs ++ [[]]).set σ.objs.length [] ++ [[] ++ cL e z], σ.opn, σ.gl⟩) ?_ (.of_eq (by simp))), ?_⟩
  · split
    · rename_i he; subst he; exact hw
    · exact Wk.refl _
  · simp only [aop2, if_true, if_neg hne, aappendV, hd, hi]
    rw [show (σ.objs ++ [[]])[σ.objs.length]? = some [] by simp]
    simp only
    rw [hsz, hs']
    simp only
    rw [if_pos ⟨trivial, Nat.pos_of_ne_zero he.pos, by simp, hb, by simpa using h1⟩]
    simp
  · have h2 := (hH.add []).renew 0 rfl hH.olen ([] ++ cL e z)
    simp only [List.length_append, List.length_cons, List.length_nil, Nat.zero_add, List.set_cons_zero] at h2
    refine ⟨?_, by have := hH.olen; omega⟩
    simpa using h2
/-- An element's address. -/
theorem o_vecx (hT : TyOk P Ty) {m id : Nat} {kk : IntKind} {i : Int} {u : Unit} (h : chk m i = some u) (hd : tdOf Ty T = .slice E) (hz : szOf Ty E = sz) (hs : sz ≠ 0) (hx : aeval fr ox = .vec id sz m) (hi : aeval fr oi = .int kk i) : OpP P ⟨d, .indexAddr T ox oi, ty, pos, af, g⟩ fr (.ref id (0 + i.toNat * sz + 0)) := fun τ => by
  refine OpS.of_aop2 hT rfl (aeval fr) (fun x _ => Wk.refl _) (a := .ref id (0 + i.toNat * sz)) ?_ (Wk.refl _)
  simp only [aop2, hx, hi, aindexAddr2, hd]
  rw [if_pos ⟨(chk_some h).1, (chk_some h).2, hz.symm, hs⟩]
  rfl
theorem o_vlen (hT : TyOk P Ty) {m id : Nat} (hd : tdOf Ty T = .slice E) (hx : aeval fr ox = .vec id sz m) : OpP P ⟨d, .call ⟨.builtin .len, #[ox], #[T]⟩, ty, pos, af, g⟩ fr (eI (m : Int)) := fun τ => by
  refine OpS.of_aop2 hT rfl (aeval fr) (fun x _ => Wk.refl _) (a := .int .i64 m) ?_ (Wk.refl _)
  simp only [aop2, hx, alen2, hd]
  rfl
theorem updA_len {m : Nat} {l c : List α} {i : Int} {f : α → α} (h : updA m l i f = some c) : c.length = l.length := by
  obtain ⟨x, _, rfl⟩ := updA_some h
  simp
/-- As many things as are asked for, all noughts. -/
def mkS {α : Type} (b : Nat) (m : Int) (z : α) : Option (List α) := if 0 ≤ m ∧ (b : Int) * m ≤ 281474976710656 ∧ m ≤ 9223372036854775807 then some (List.replicate m.toNat z) else none
/-- make: noughts that never change. -/
theorem h_make (hT : TyOk P Ty) (hH : Holds σ0 O A σ) {i : TI} {z : α} {x : List α} {m : Int} {k k' : IntKind} (h : mkS i.bytes m z = some x) (hd : tdOf Ty T = .slice E) (hi : Ty E = some i) (hsz : i.sz = sz) (hz : i.zero = e z) (hx : aeval fr ox = .int k m) (hy : aeval fr oy = .int k' m) :
    ∃ t τ, OpS P ⟨d, .makeSlice T ox oy, ty, pos, af, g⟩ fr σ (fun a' τ' => a' = (fun t => eT t sz e x) t ∧ τ' = τ) ∧ Holds σ0 O (t :: A) τ := by
  unfold mkS at h
  split at h
  case isFalse => cases h
  rename_i hc
  cases h
  refine ⟨_, _, OpS.of_aop hT (mu := false) rfl (aeval fr) (fun x _ => Wk.refl _) (a := .sl (.own σ.opn.length) i.sz (List.replicate m.toNat i.zero)) (σ' := σ.more) ?_ (.of_eq (by rw [hsz, hz]; simp [eT])), hH.more⟩
  simp only [aop, hx, hy, amake, hd, hi]
  rw [if_pos ⟨hc.1, Int.le_refl _, hc.2.1, hc.2.2⟩]
  rfl
theorem h_makeV (hT : TyOk P Ty) (hH : Holds σ0 O A σ) {i : TI} {z : α} {x : List α} {m : Int} {k k' : IntKind} (h : mkS i.bytes m z = some x) (hd : tdOf Ty T = .slice E) (hi : Ty E = some i) (hsz : i.sz = sz) (hz : i.zero = e z) (hx : aeval fr ox = .int k m) (hy : aeval fr oy = .int k' m) :
    ∃ b τ, OpS P ⟨d, .makeSlice T ox oy, ty, pos, af, g⟩ fr σ (fun a' τ' => a' = (fun b => AV.vec b sz x.length) b ∧ τ' = τ) ∧ (Holds σ0 ((b, cL e x) :: O) A τ ∧ σ0.objs.length ≤ b) := by
  unfold mkS at h
  split at h
  case isFalse => cases h
  rename_i hc
  cases h
  have e1 : cL e (List.replicate m.toNat z) = flat (List.replicate m.toNat i.zero) := by rw [hz]; simp [cL]
  refine ⟨_, _, OpS.of_aop2 hT rfl (aeval fr) (fun x _ => Wk.refl _) (a := .vec σ.objs.length i.sz m.toNat) (σ' := ⟨σ.objs ++ [flat (List.replicate m.toNat i.zero)], σ.opn, σ.gl⟩) ?_ (.of_eq (by rw [hsz]; simp)), by rw [e1]; exact hH.add _, hH.olen⟩
  simp only [aop2, hx, hy, amake2, hd, hi]
  rw [if_pos ⟨hc.1, Int.le_refl _, by omega, hc.2.1, hc.2.2⟩]
theorem wk_vec00 (i j sz : Nat) : Wk (.vec i sz 0) (.vec j sz 0) := fun G v h => by
  cases h with
  | vec0 A _ _ => exact .vec0 _ _ _
  | vec _ _ _ _ _ h0 => exact absurd h0 (Nat.lt_irrefl 0)
/-- The names behind a call that hands back a new variable. -/
theorem kept_new {σ' : St} {id : Nat} {c : List AV} (hid : σ.objs.length ≤ id) (hH : Holds σ [(id, c)] [] σ') (hc : ∀ ρ κ, cutL ρ κ c = c) : Kept σ σ' ⟨σ.objs ++ [c], σ.opn, σ.gl⟩ (fun i => if i = id then some σ.objs.length else idl σ.objs.length i) (idl σ.opn.length) := by
  refine ⟨fun i i' j h1 h2 => ?_, idl_inj _, fun i hi => ?_, fun i hi => by simp [idl, hi], fun i j h => ?_, fun t u h => (idl_lt h).2, Nat.le_refl _, rfl, fun j d hj => ?_, fun t u h hu => ?_⟩
  · try simp only at h1 h2
    split at h1 <;> split at h2
    · rename_i e1 e2; rw [e1, e2]
    · have := (idl_lt h2).2; cases h1; omega
    · have := (idl_lt h1).2; cases h2; omega
    · exact idl_inj _ _ _ _ h1 h2
  · try simp only
    rw [if_neg (by omega)]
    simp [idl, hi]
  · try simp only at h
    split at h
    · cases h; simp
    · have := (idl_lt h).2; simp; omega
  · by_cases hlt : j < σ.objs.length
    · simp only at hj
      rw [List.getElem?_append_left hlt] at hj
      refine ⟨j, d, by rw [if_neg (by omega)]; simp [idl, hlt], hH.base j d hj (fun p hp => ?_), .inl ⟨hj, rfl⟩⟩
      simp at hp
      subst hp
      simp only
      omega
    · have hj2 := (List.getElem?_eq_some_iff.1 hj).1
      simp at hj2
      have : j = σ.objs.length := by omega
      subst this
      simp at hj
      subst hj
      exact ⟨id, c, by simp, hH.obj (id, c) (by simp), .inr (hc _ _).symm⟩
  · obtain ⟨rfl, _⟩ := idl_lt h
    exact hH.opn t hu
theorem cut_vec {ρ κ : Nat → Option Nat} {id j q : Nat} (h : ρ id = some j) : Wk (cutAV ρ κ (.vec id sz q)) (.vec j sz q) := by
  simp only [cutAV]
  split
  · rename_i h0; subst h0; exact wk_vec00 _ _ _
  · rw [h]; exact Wk.refl _
/-- A function that hands back a slice that is a variable. -/
theorem ACall.vec {gg : FuncId} {args : List AV} {q : Nat} {c : List AV} (hc : ∀ ρ κ, cutL ρ κ c = c) (h : ACall P gg args σ (fun a σ' => ∃ id, a = .vec id sz q ∧ σ.objs.length ≤ id ∧ Holds σ [(id, c)] [] σ')) : ACall P gg args σ (fun a σ' => a = .vec σ.objs.length sz q ∧ σ' = ⟨σ.objs ++ [c], σ.opn, σ.gl⟩) :=
  h.ren fun a σ' ⟨id, ha, hid, hH⟩ => by
    subst ha
    exact ⟨_, .vec σ.objs.length sz q, _, _, kept_new hid hH hc, cut_vec (by simp), rfl, rfl⟩
/-- The same, and more. -/
theorem ACall.vecs {gg : FuncId} {args : List AV} {q : Nat} {c rest : List AV} (hc : ∀ ρ κ, cutL ρ κ c = c) (hr : ∀ ρ κ, cutL ρ κ rest = rest) (h : ACall P gg args σ (fun a σ' => ∃ id, a = .tup (.vec id sz q :: rest) ∧ σ.objs.length ≤ id ∧ Holds σ [(id, c)] [] σ')) : ACall P gg args σ (fun a σ' => a = .tup (.vec σ.objs.length sz q :: rest) ∧ σ' = ⟨σ.objs ++ [c], σ.opn, σ.gl⟩) :=
  h.ren fun a σ' ⟨id, ha, hid, hH⟩ => by
    subst ha
    refine ⟨_, .tup (.vec σ.objs.length sz q :: rest), _, _, kept_new hid hH hc, ?_, rfl, rfl⟩
    simp only [cutAV, cutL, hr]
    refine wk_tup (.cons ?_ (WkL.refl _))
    have := cut_vec (sz := sz) (q := q) (ρ := fun i => if i = id then some σ.objs.length else idl σ.objs.length i) (κ := idl σ.opn.length) (id := id) (j := σ.objs.length) (by simp)
    simpa only [cutAV] using this
theorem h_callv (hH : Holds σ0 O A σ) {o : Oper} {f : Operand} {xs : List Operand} {gg : FuncId} {first cap args : List AV} {q : Nat} (c : List AV) (hc : callOf o = some (f, xs)) (hf : aeval fr f = .fn (.func gg) first cap) (hargs : WkL (first ++ xs.map (aeval fr) ++ cap) args)
    (hcall : ACall P gg args σ (fun a τ => a = .vec σ.objs.length sz q ∧ τ = ⟨σ.objs ++ [c], σ.opn, σ.gl⟩)) : ∃ id τ, OpS P o fr σ (fun a' τ' => a' = .vec id sz q ∧ τ' = τ) ∧ (Holds σ0 ((id, c) :: O) A τ ∧ σ0.objs.length ≤ id) :=
  ⟨_, _, OpS.of_call hc hf hargs hcall, hH.add c, hH.olen⟩
theorem h_callvs (hH : Holds σ0 O A σ) {o : Oper} {f : Operand} {xs : List Operand} {gg : FuncId} {first cap args rest : List AV} {q : Nat} (c : List AV) (hc : callOf o = some (f, xs)) (hf : aeval fr f = .fn (.func gg) first cap) (hargs : WkL (first ++ xs.map (aeval fr) ++ cap) args)
    (hcall : ACall P gg args σ (fun a τ => a = .tup (.vec σ.objs.length sz q :: rest) ∧ τ = ⟨σ.objs ++ [c], σ.opn, σ.gl⟩)) : ∃ id τ, OpS P o fr σ (fun a' τ' => a' = .tup (.vec id sz q :: rest) ∧ τ' = τ) ∧ (Holds σ0 ((id, c) :: O) A τ ∧ σ0.objs.length ≤ id) :=
  ⟨_, _, OpS.of_call hc hf hargs hcall, hH.add c, hH.olen⟩
end
end Go.Va
namespace Go.Va
open Go Go.RowKit
set_option linter.unusedVariables false
set_option linter.unusedSimpArgs false
/-- slices.Delete, where there is something. -/
def delO {α : Type} (l : List α) (i j : Int) : Option (List α) := if 0 ≤ i ∧ i ≤ j ∧ j ≤ l.length ∧ i < l.length then some (l.take i.toNat ++ l.drop j.toNat) else none
theorem delO_some {α : Type} {l r : List α} {i j : Int} (h : delO l i j = some r) : ∃ a b : Nat, i = a ∧ j = b ∧ a ≤ b ∧ b ≤ l.length ∧ a < l.length ∧ r = l.take a ++ l.drop b := by
  unfold delO at h
  split at h
  case isFalse => cases h
  rename_i hc
  cases h
  exact ⟨i.toNat, j.toNat, by omega, by omega, by omega, by omega, by omega, rfl⟩
section
variable {P : Program} {Ty : TypeId → Option TI} {n : Nat} {σ : St} {ops : Array Oper} {fr : Nat → AV} {d : Option Tmp} {ty : TypeId} {pos : String} {af : Array Edge} {g : Option (Nat × Bool)} {ox oy oi : Operand} {T T' E U : TypeId} {α : Type} {e : α → AV} {sz id off m cap : Nat}
theorem o_vclen (hT : TyOk P Ty) (hd : tdOf Ty T = .slice E) (hx : aeval fr ox = .vc id sz off m cap) : OpP P ⟨d, .call ⟨.builtin .len, #[ox], #[T]⟩, ty, pos, af, g⟩ fr (eI (m : Int)) := fun τ => by
  refine OpS.of_aop2 hT rfl (aeval fr) (fun x _ => Wk.refl _) (a := .int .i64 m) ?_ (Wk.refl _)
  simp only [aop2, hx, alen2, hd]
  rfl
theorem o_vcs (hT : TyOk P Ty) {lo hi mx : Option Operand} (l h k : Nat) (hd : tdOf Ty T = .slice E) (hz : szOf Ty E = sz) (hs : sz ≠ 0) (hx : aeval fr ox = .vc id sz off m cap) (h1 : abnd 0 (lo.map (aeval fr)) = some l) (h2 : abnd m (hi.map (aeval fr)) = some h) (h3 : abnd cap (mx.map (aeval fr)) = some k) (hk : (mx.map (aeval fr)).isSome = true → (hi.map (aeval fr)).isSome = true) (hlh : l ≤ h) (hhk : h ≤ k) (hkc : k ≤ cap) :
    OpP P ⟨d, .slice T ox lo hi mx, ty, pos, af, g⟩ fr (.vc id sz (if k = l then off else off + l * sz) (h - l) (k - l)) := fun τ => by
  refine OpS.of_aop2 hT rfl (aeval fr) (fun x _ => Wk.refl _) (a := .vc id sz (if k = l then off else off + l * sz) (h - l) (k - l)) ?_ (Wk.refl _)
  simp only [aop2, hx, aslice2, hd, h1, h2, h3]
  rw [if_pos ⟨hk, hlh, hhk, hkc, hz.symm, hs⟩]
  rfl
theorem o_vcs0 (hT : TyOk P Ty) {hi : Operand} (h : Nat) (hd : tdOf Ty T = .slice E) (hz : szOf Ty E = sz) (hs : sz ≠ 0) (hx : aeval fr ox = .vc id sz off m cap) (h2 : aeval fr hi = eI (h : Int)) (hhk : h ≤ cap) :
    OpP P ⟨d, .slice T ox none (some hi) none, ty, pos, af, g⟩ fr (.vc id sz off h cap) := by
  have := o_vcs (P := P) (d := d) (ty := ty) (pos := pos) (af := af) (g := g) hT (lo := none) (hi := some hi) (mx := none) 0 h cap hd hz hs hx rfl (by rw [Option.map_some, h2]; simp [abnd, eI]) rfl (fun h => by cases h) (Nat.zero_le _) hhk (Nat.le_refl _)
  have e : (if cap = 0 then off else off + 0 * sz) = off := by split <;> simp
  rw [e] at this
  simpa using this
theorem o_vcapp (hT : TyOk P Ty) {i : TI} {cells ys : List AV} {k : Nat} (hc : σ.objs[id]? = some cells) (hne : cells ≠ []) (hd : tdOf Ty T = .slice E) (hi : Ty E = some i) (hsz : i.sz = sz) (hx : aeval fr ox = .vc id sz off m cap) (hs : srcC Ty U sz σ (aeval fr oy) = some (k, ys)) (hfit : m + k ≤ cap) (hle : off + m * sz ≤ cells.length) :
    OpS P ⟨d, .call ⟨.builtin .append, #[ox, oy], #[T, U]⟩, ty, pos, af, g⟩ fr σ (fun a τ => a = .vc id sz off (m + k) cap ∧ τ = ⟨σ.objs.set id (cells.take (off + m * sz) ++ ys ++ cells.drop (off + m * sz + ys.length)), σ.opn, σ.gl⟩) := by
  refine OpS.of_aop2 hT rfl (aeval fr) (fun x _ => Wk.refl _) (a := .vc id sz off (m + k) cap) ?_ (Wk.refl _)
  simp only [aop2, hx, aappendC, hd, hi, hc]
  rw [hsz, hs]
  simp only
  rw [if_pos ⟨trivial, hfit, hle, by cases cells with | nil => exact absurd rfl hne | cons _ _ => rfl⟩]
theorem o_vcclear (hT : TyOk P Ty) {i : TI} {cells : List AV} (hc : σ.objs[id]? = some cells) (hne : cells ≠ []) (hd : tdOf Ty T = .slice E) (hi : Ty E = some i) (hsz : i.sz = sz) (hx : aeval fr ox = .vc id sz off m cap) (hle : off ≤ cells.length) :
    OpS P ⟨d, .call ⟨.builtin .clear, #[ox], #[T]⟩, ty, pos, af, g⟩ fr σ (fun a τ => a = .tup [] ∧ τ = ⟨σ.objs.set id (cells.take off ++ flat (List.replicate m i.zero) ++ cells.drop (off + (flat (List.replicate m i.zero)).length)), σ.opn, σ.gl⟩) := by
  refine OpS.of_aop2 hT rfl (aeval fr) (fun x _ => Wk.refl _) (a := .tup []) ?_ (Wk.refl _)
  simp only [aop2, hx, aclear, hd, hi, hc]
  rw [if_pos ⟨hsz, hle, by cases cells with | nil => exact absurd rfl hne | cons _ _ => rfl⟩]
theorem srcC_vc {cells : List AV} (hd : tdOf Ty U = .slice E) (hc : σ.objs[id]? = some cells) (hle : off + m * sz ≤ cells.length) : srcC Ty U sz σ (.vc id sz off m cap) = some (m, (cells.drop off).take (m * sz)) := by
  simp only [srcC, if_true, partOf, hd, hc]
  rw [if_pos hle]
/-- A slice that is a variable: its room is as it is. -/
theorem ACall.room {gg : FuncId} {rest : List AV} {K : AV → St → Prop} (h0 : 0 < m) (h : ∀ c, m ≤ c → ACall P gg (.vc id sz 0 m c :: rest) σ K) : ACall P gg (.vec id sz m :: rest) σ K := by
  refine ⟨(h m (Nat.le_refl _)).1, fun w0 G w vs hI hr => ?_⟩
  have hl := hr.len
  cases hv : vs.toList with
  | nil => rw [hv] at hl; simp at hl
  | cons v vs' =>
    rw [hv] at hr
    have h1 := hr.at_ 0 v _ rfl rfl
    cases h1 with
    | vec0 A _ _ => omega
    | vec _ _ _ c b h0 hc hm hl hs =>
      refine (h c hc).2 w0 G w vs hI ?_
      rw [hv]
      refine RelL.cons (.vc id sz 0 m c b hc hm hl (by omega)) ⟨by simpa using hr.len, fun i u a e1 e2 => hr.at_ (i + 1) u a (by simpa using e1) (by simpa using e2)⟩
/-- What is left of a variable is a slice that never changes. -/
theorem ACall.freeze {gg : FuncId} {args : List AV} {r : List α} {c : Nat} (he : Enc Ty E sz e) (hc : ∀ cells, σ.objs[id]? = some cells → True) (h : ACall P gg args σ (fun a τ => a = .vc id sz 0 r.length c ∧ ∃ cells, cells ≠ [] ∧ cells.take (r.length * sz) = cL e r ∧ id < σ.objs.length ∧ τ = ⟨σ.objs.set id cells, σ.opn, σ.gl⟩)) :
    ACall P gg args σ (fun a τ => a = .sl (.own σ.opn.length) sz (r.map e) ∧ τ = ⟨σ.objs.set id [], σ.opn ++ [true], σ.gl⟩) := by
  refine ⟨h.1, fun w0 G w vs hI hr => (h.2 w0 G w vs hI hr).mono ?_⟩
  rintro e' w' ⟨v, a, σ', G', rfl, h1, h2, h3, rfl, cells, hne, htk, hid, rfl⟩
  have hcell : (σ.objs.set id cells)[id]? = some cells := by rw [List.getElem?_set]; simp [hid]
  have hlen : r.length * sz ≤ cells.length := by
    have := congrArg List.length htk
    rw [cL_length he.len, List.length_take] at this
    omega
  cases h3 with
  | vc _ _ _ _ _ b hcc hm hl hs =>
    obtain ⟨vs, k1, k2, hle, hI'⟩ := h2.freeze hcell hl hne (r.length * sz) (c * sz) hlen (by omega)
    rw [htk] at k1
    have hz : ∀ y ∈ r.map e, y.cells.length = sz := fun y hy => by obtain ⟨z, _, rfl⟩ := List.mem_map.1 hy; exact he.len z
    refine ⟨_, .sl (.own σ.opn.length) sz (r.map e), _, _, rfl, h1.trans hle, ?_, ?_, rfl, rfl⟩
    · have e2 : (σ.objs.set id cells).set id [] = σ.objs.set id [] := by rw [List.set_set]
      rw [← e2]
      exact hI'
    · have key := Rel.mkSl (G := G'.frz b vs σ.opn.length (r.length * sz) (c * sz)) (b := b) (o := 0) (c := c) (sz := sz) (t := .own σ.opn.length) (es := r.map e) (news := vs) (by simpa using hcc) hm hz (k1.mono hle) (fun j u hu => by
        simp only [Ghost.frz, if_true, Nat.zero_add]; exact hu) ⟨by simp [Ghost.frz], .inr (by simp [Ghost.frz])⟩
      rw [List.length_map] at key
      exact key
theorem cL_take (he : ∀ x, (e x).cells.length = sz) (l : List α) (a : Nat) : (cL e l).take (a * sz) = cL e (l.take a) := by
  by_cases h : a ≤ l.length
  · have e1 : cL e l = cL e (l.take a) ++ cL e (l.drop a) := by rw [← cL_append, List.take_append_drop]
    rw [e1, List.take_left' (by rw [cL_length he, List.length_take, Nat.min_eq_left h])]
  · rw [List.take_of_length_le (by rw [cL_length he]; exact Nat.mul_le_mul_right _ (by omega)), List.take_of_length_le (by omega)]
theorem cL_drop (he : ∀ x, (e x).cells.length = sz) (l : List α) (a : Nat) : (cL e l).drop (a * sz) = cL e (l.drop a) := by
  by_cases h : a ≤ l.length
  · have e1 : cL e l = cL e (l.take a) ++ cL e (l.drop a) := by rw [← cL_append, List.take_append_drop]
    rw [e1, List.drop_left' (by rw [cL_length he, List.length_take, Nat.min_eq_left h])]
  · rw [List.drop_of_length_le (by rw [cL_length he]; exact Nat.mul_le_mul_right _ (by omega)), List.drop_of_length_le (by omega)]; rfl
/-- A call of slices.Delete of a new variable. -/
theorem h_calld {σ0 : St} {O : List (Nat × List AV)} {A : List Nat} (hH : Holds σ0 O A σ) (k : Nat) {c : List AV} (hk : O[k]? = some (id, c)) (hn : σ0.objs.length ≤ id) {o : Oper} {f : Operand} {xs : List Operand} {gg : FuncId} {first cap' args es : List AV} (hc : callOf o = some (f, xs)) (hf : aeval fr f = .fn (.func gg) first cap') (hargs : WkL (first ++ xs.map (aeval fr) ++ cap') args)
    (hcall : ACall P gg args σ (fun a τ => a = .sl (.own σ.opn.length) sz es ∧ τ = ⟨σ.objs.set id [], σ.opn ++ [true], σ.gl⟩)) : ∃ t τ, OpS P o fr σ (fun a' τ' => a' = .sl (.own t) sz es ∧ τ' = τ) ∧ Holds σ0 (O.eraseIdx k) (t :: A) τ :=
  ⟨_, _, OpS.of_call hc hf hargs hcall, (hH.gone k hk hn []).more⟩
end
end Go.Va
namespace Go.Va
theorem abnd_nat (d k : Nat) : abnd d (some (eI (k : Int))) = some k := by simp [abnd, eI]
end Go.Va
namespace Go.Va
/-- copy into an array. -/
def cpV {α : Type} {n : Nat} (v : Vector α n) (l : List α) : Option (Vector α n) := if h : l.length ≤ n then some ⟨(l ++ v.toList.drop l.length).toArray, by simp; omega⟩ else none
theorem cpV_some {α : Type} {n : Nat} {v v' : Vector α n} {l : List α} (h : cpV v l = some v') : l.length ≤ n ∧ v'.toList = l ++ v.toList.drop l.length := by
  unfold cpV at h
  split at h
  · rename_i hl; cases h; exact ⟨hl, by simp [Vector.toList]⟩
  · cases h
section
variable {P : Program} {Ty : TypeId → Option TI} {σ σ0 : St} {O : List (Nat × List AV)} {A' : List Nat} {ops : Array Oper} {fr : Nat → AV} {d : Option Tmp} {ty : TypeId} {pos : String} {af : Array Edge} {g : Option (Nat × Bool)} {ox oy oi : Operand} {T T' E U : TypeId} {α : Type} {e : α → AV} {sz id m cap : Nat}
theorem h_cpb (hT : TyOk P Ty) (hH : Holds σ0 O A' σ) (k : Nat) {ti : TI} {id n base : Nat} {A B c c' : List AV} {v v' : Vector α n} {l : List α} (h : cpV v l = some v') (hk : O[k]? = some (id, c)) (hc : c = A ++ (cL e v.toList ++ B)) (hc' : c' = A ++ (cL e v'.toList ++ B)) (hA : A.length = base) (hn0 : n ≠ 0) (he : Enc Ty E sz e) (hd : tdOf Ty T = .slice E) (hi : Ty E = some ti) (hsz : ti.sz = sz) (hx : aeval fr ox = .msl id base n) (hs : SrcV Ty U sz σ (aeval fr oy) l.length (cL e l)) :
    ∃ (_ : Nat) (τ : St), OpS P ⟨d, .call ⟨.builtin .copy, #[ox, oy], #[T, U]⟩, ty, pos, af, g⟩ fr σ (fun a' τ' => a' = (fun _ => eI (l.length : Int)) 0 ∧ τ' = τ) ∧ Holds σ0 (O.set k (id, c')) A' τ := by
  obtain ⟨hl, hv'⟩ := cpV_some h
  have hvl := cL_length he.len v.toList
  have hvn : v.toList.length = n := by simp
  rw [hvn] at hvl
  have hll := cL_length he.len l
  have hcl : c.length = base + (n * sz + B.length) := by rw [hc]; simp only [List.length_append]; omega
  have hpos : 0 < sz := Nat.pos_of_ne_zero he.pos
  unfold SrcV at hs
  have hne : c ≠ [] := fun h => by
    rw [h] at hcl
    simp only [List.length_nil] at hcl
    have := Nat.mul_pos (Nat.pos_of_ne_zero hn0) hpos
    omega
  have hmul : l.length * sz ≤ n * sz := Nat.mul_le_mul_right _ hl
  refine ⟨0, ⟨σ.objs.set id c', σ.opn, σ.gl⟩, OpS.of_aop2 hT rfl (aeval fr) (fun x _ => Wk.refl _) (a := .int .i64 (l.length : Nat)) ?_ (Wk.refl _), hH.put k hk c'⟩
  simp only [aop2, hx, acopy, hd, hi, hH.at_ k hk]
  rw [hsz, hs]
  simp only
  rw [if_pos ⟨by omega, by cases c with | nil => exact absurd rfl hne | cons _ _ => rfl, hl⟩]
  congr 4
  rw [hc', hc, hv', cL_append]
  subst hA
  rw [List.take_left' rfl, List.append_assoc, List.append_assoc]
  congr 2
  rw [hll, show A.length + l.length * sz = A.length + (l.length * sz) from rfl, List.drop_append, List.drop_of_length_le (by omega), List.nil_append]
  rw [show A.length + l.length * sz - A.length = l.length * sz by omega, List.drop_append_of_le_length (by omega), cL_drop he.len]
end
end Go.Va
namespace Go.Va
open Go Go.RowKit
set_option linter.unusedVariables false
set_option linter.unusedSimpArgs false

/-- What is known at a law's begin: what lies in memory. -/
def argG (w : World) : Ghost := ⟨fun b o => match w.cell? ⟨b, o, none⟩ with | some v => if v.oneCell' = true then some v else none | none => none, fun _ => none, fun _ => none, 0, fun _ => false, fun _ => 0⟩
theorem argG_fz {w : World} {b o : Nat} {v : Value} (h : w.cell? ⟨b, o, none⟩ = some v) (h1 : v.oneCell' = true) : (argG w).fz b o = some v := by
  simp [argG, h, h1]
theorem argG_inv (w : World) {gl : List (Addr × Value)} (hgl : ∀ p ∈ gl, w.cell? p.1 = some p.2) : Inv w (argG w) w ⟨[], [], gl⟩ := by
  refine ⟨Below.refl _ _, fun b o v h => ?_, fun id c h => by simp at h, fun id b o c h => by simp [argG] at h, fun id b h => by simp [argG] at h, fun id b h => by simp [argG] at h, fun i j b c d h => by simp [argG] at h, fun t b top en h => by simp at h, fun t x h => by simp [argG] at h, fun t t' x x' h => by simp at h, Nat.le_refl _, fun b h => by simp [argG] at h, hgl⟩
  simp only [argG] at h
  split at h
  case h_2 => cases h
  rename_i u hu
  split at h
  case isFalse => cases h
  rename_i h1
  cases h
  exact ⟨hu, h1⟩
/-- THE BRIDGE. -/
theorem ACall.said {P : Program} {n : FuncId} {args : List AV} {vs : Array Value} {w : World} {gl : List (Addr × Value)} (hgl : ∀ p ∈ gl, w.cell? p.1 = some p.2) (hc : ACall P n args ⟨[], [], gl⟩ (fun a τ => a = eB true ∧ τ = ⟨[], [], gl⟩)) (hr : RelL (argG w) vs.toList args) :
    Calls P n vs w fun e w' => e = .returned (.bool true) ∧ Below w.heap.size w w' :=
  (hc.2 w (argG w) w vs (argG_inv w hgl) hr).mono fun e w' ⟨v, a, σ', G', h1, _, h3, h4, h5, _⟩ => by
    subst h5
    cases h4
    exact ⟨h1, h3.below⟩

/-- Data of a type, in memory, are values of a kind. -/
def Opens (P : Program) (t : TypeId) {α : Type} (e : α → AV) (wf : α → Prop) : Prop :=
  ∀ {H : Type} (enc : TypeId × Value → H) (w : World) (fuel : Nat) (cs : List Value) (x : DataW H × List MemPlace), DataW.trod enc P w 0 (fun _ => true) true fuel t cs = some x → ∃ y : α, wf y ∧ RelL (argG w) cs (e y).cells ∧ ∀ v ∈ cs, v.oneCell' = true
def wfI (k : IntKind) (n : Int) : Prop := k.min ≤ n ∧ n ≤ k.max
def wfL {α : Type} (wf : α → Prop) (l : List α) : Prop := l.length ≤ maxLen ∧ ∀ x ∈ l, wf x
def wfS (s : List (BitVec 8)) : Prop := s.length ≤ maxLen
def wfT {α : Type} (_ : α) : Prop := True
theorem wfI_i64 {n : Int} (h : wfI .i64 n) : -9223372036854775808 ≤ n ∧ n ≤ 9223372036854775807 := h
section
variable {P : Program} {Ty : TypeId → Option TI} {t E : TypeId}
theorem wf_iff {k : IntKind} {n : Int} (h : (Lit.int k n).wf = true) : wfI k n := by
  simp only [Lit.wf, Bool.and_eq_true, decide_eq_true_eq] at h; exact h
theorem opens_i {k : IntKind} (h : P.underlying t = some (.int k)) : Opens P t (eK k) (wfI k) := by
  intro H enc w fuel cs x hx
  obtain ⟨n, rfl, _, hw⟩ := DataW.trod_int h hx
  exact ⟨n, wf_iff hw, (RelL.nil _).cons (.int _ _), by simp [Value.oneCell']⟩
theorem opens_i64 (h : P.underlying t = some (.int .i64)) : Opens P t eI (wfI .i64) := opens_i h
theorem opens_u {k : IntKind} {m : Nat} (hs : k.signed = false) (hb : k.bits = m) (h : P.underlying t = some (.int k)) : Opens P t (@eU k m) wfT := by
  subst hb
  intro H enc w fuel cs x hx
  obtain ⟨n, rfl, _, hw⟩ := DataW.trod_int h hx
  have hw := wf_iff hw
  simp only [wfI, IntKind.min, IntKind.max, hs, Bool.false_eq_true, if_false] at hw
  refine ⟨BitVec.ofInt k.bits n, trivial, ?_, by simp [Value.oneCell']⟩
  have e : ((BitVec.ofInt k.bits n).toNat : Int) = n := by
    rw [BitVec.toNat_ofInt]
    have h2 : (2 : Int) ^ k.bits = ((2 ^ k.bits : Nat) : Int) := by simp
    rw [h2] at hw
    rw [Int.emod_eq_of_lt hw.1 (by omega), Int.toNat_of_nonneg hw.1]
  show RelL _ _ [AV.int k ((BitVec.ofInt k.bits n).toNat : Int)]
  rw [e]
  exact (RelL.nil _).cons (.int _ _)
theorem opens_b (h : P.underlying t = some .bool) : Opens P t eB wfT := by
  intro H enc w fuel cs x hx
  obtain ⟨b, rfl, _⟩ := DataW.trod_bool h hx
  exact ⟨b, trivial, (RelL.nil _).cons (.bool _), by simp [Value.oneCell']⟩
theorem opens_s (h : P.underlying t = some .string) : Opens P t eS wfS := by
  intro H enc w fuel cs x hx
  obtain ⟨s, rfl, _, hs⟩ := DataW.trod_string h hx
  refine ⟨s.data.toList.map (·.toBitVec), ?_, ?_, by simp [Value.oneCell']⟩
  · simpa [wfS] using hs
  · show RelL _ _ [AV.str _]
    rw [mkB_of]
    exact (RelL.nil _).cons (.str _)
theorem cellsOf_ty (hT : TyOk P Ty) {i : TI} (h : Ty t = some i) : P.cellsOf t = i.sz := by
  obtain ⟨_, ti, z, h1, h2, _⟩ := hT t i h
  simp [Program.cellsOf, h1, h2]
theorem cellsOf_sz (hT : TyOk P Ty) {sz : Nat} (h : szOf Ty t = sz) (h0 : sz ≠ 0) : P.cellsOf t = sz := by
  unfold szOf at h
  split at h
  · rename_i i hi; rw [cellsOf_ty hT hi, h]
  · exact absurd h.symm h0
theorem opens_l (hT : TyOk P Ty) {sz : Nat} {α : Type} {e : α → AV} {wf : α → Prop} (h : P.underlying t = some (.slice E)) (he : Enc Ty E sz e) (ho : Opens P E e wf) : Opens P t (eL sz e) (wfL wf) := by
  intro H enc w fuel cs x hx
  rcases DataW.trod_slice h hx with ⟨rfl, _⟩ | ⟨a, len, cap, elems, rest, n, _, rfl, _, _, hlc, hcm, hel, hat, _, _⟩
  · exact ⟨[], ⟨Nat.zero_le _, fun x hx => by cases hx⟩, (RelL.nil _).cons (.sl0 none 0 .no sz (Nat.zero_le _) (.inl rfl)), by simp [Value.oneCell']⟩
  · rw [cellsOf_sz hT he.ty he.pos] at hat
    have key : ∀ i, i < len → ∃ cs' y, w.cells? 0 (a.add (i * sz)) sz = some cs' ∧ wf y ∧ RelL (argG w) cs' (e y).cells ∧ ∀ v ∈ cs', v.oneCell' = true := fun i hi => by
      have h1 := hat i hi
      rw [List.getElem?_eq_getElem (by omega)] at h1
      obtain ⟨cs', h2, h3⟩ := Option.bind_eq_some_iff.1 h1
      obtain ⟨y, h4, h5, h6⟩ := ho enc w n cs' _ h3
      exact ⟨cs', y, h2, h4, h5, h6⟩
    -- the values, one by one
    have all : ∀ m, m ≤ len → ∃ ys : List α, ys.length = m ∧ (∀ y ∈ ys, wf y) ∧ ∀ (i : Nat) (y : α), ys[i]? = some y → ∃ cs', w.cells? 0 (a.add (i * sz)) sz = some cs' ∧ RelL (argG w) cs' (e y).cells ∧ ∀ v ∈ cs', v.oneCell' = true := by
      intro m
      induction m with
      | zero => exact fun _ => ⟨[], rfl, (fun y hy => by cases hy), fun i y hy => by simp at hy⟩
      | succ m ih =>
        intro hm
        obtain ⟨ys, h1, h2, h3⟩ := ih (by omega)
        obtain ⟨cs', y, k1, k2, k3, k4⟩ := key m (by omega)
        refine ⟨ys ++ [y], by simp [h1], fun z hz => ?_, fun i z hz => ?_⟩
        · rcases List.mem_append.1 hz with hz | hz
          · exact h2 z hz
          · simp at hz; subst hz; exact k2
        · rw [List.getElem?_append] at hz
          split at hz
          · exact h3 i z hz
          · rename_i hi
            have : i - ys.length = 0 := by
              rcases Nat.eq_zero_or_pos (i - ys.length) with h0 | h0
              · exact h0
              · rw [List.getElem?_eq_none (by simp; omega)] at hz; cases hz
            rw [this] at hz
            simp at hz
            subst hz
            rw [show i = m by omega]
            exact ⟨cs', k1, k3, k4⟩
    obtain ⟨ys, h1, h2, h3⟩ := all len (Nat.le_refl _)
    refine ⟨ys, ⟨by omega, h2⟩, (RelL.nil _).cons ?_, by simp [Value.oneCell']⟩
    have hz : ∀ z ∈ ys.map e, z.cells.length = sz := fun z hz => by obtain ⟨y, _, rfl⟩ := List.mem_map.1 hz; exact he.len y
    cases ys with
    | nil =>
      simp at h1
      subst h1
      exact .sl0 _ _ .no sz hcm (.inl rfl)
    | cons y0 ys0 =>
      have hsp : a.spot = none := by
        obtain ⟨cs', k1, _, _⟩ := h3 0 y0 rfl
        obtain ⟨_, k2, k3⟩ := World.cells?_some k1
        have := k3 0 (Nat.pos_of_ne_zero he.pos)
        rw [Nat.zero_mul] at this
        have e0 : (a.add 0).add 0 = a := by simp [Addr.add]
        rw [e0, List.getElem?_eq_getElem (by have := Nat.pos_of_ne_zero he.pos; omega)] at this
        exact World.cell?_spot this
      obtain ⟨b, o, sp⟩ := a
      simp only at hsp
      subst hsp
      have hl : ((y0 :: ys0).map e).length = len := by rw [List.length_map]; exact h1
      have hcell : ∀ (i : Nat) (z : AV) (j : Nat) (u : AV), ((y0 :: ys0).map e)[i]? = some z → z.cells[j]? = some u → ∃ v, w.cell? ⟨b, o + i * sz + j, none⟩ = some v ∧ v.oneCell' = true ∧ Rel (argG w) v u := by
        intro i z j u e1 e2
        rw [List.getElem?_map, Option.map_eq_some_iff] at e1
        obtain ⟨y, e1, rfl⟩ := e1
        obtain ⟨cs', k1, k2, k3⟩ := h3 i y e1
        obtain ⟨_, k4, k5⟩ := World.cells?_some k1
        obtain ⟨v, hv, hr⟩ := k2.get e2
        have hj : j < sz := by rw [← k4]; exact (List.getElem?_eq_some_iff.1 hv).1
        have := k5 j hj
        rw [Addr.add_lit, Addr.add_lit, hv] at this
        exact ⟨v, this, k3 v (List.mem_of_getElem? hv), hr⟩
      have key2 := Rel.sl (G := argG w) b o cap .no sz ((y0 :: ys0).map e) (fun i j => (w.cell? ⟨b, o + i * sz + j, none⟩).getD undef) (by rw [hl]; exact hlc) hcm hz (fun i z j u e1 e2 => by
        obtain ⟨v, k1, k2, k3⟩ := hcell i z j u e1 e2
        rw [k1]
        exact argG_fz k1 k2) (fun i z j u e1 e2 => by
        obtain ⟨v, k1, k2, k3⟩ := hcell i z j u e1 e2
        rw [k1]
        exact k3) trivial
      rw [hl] at key2
      exact key2
/-! ### structures -/
theorem rel_piece {G : Ghost} {cs : List Value} {o s : Nat} {a b : List AV} (h : RelL G ((cs.drop o).take s) a) (k : RelL G (cs.drop (o + s)) b) : RelL G (cs.drop o) (a ++ b) := by
  have := h.append k
  rw [← List.drop_drop, List.take_append_drop] at this
  exact this
theorem rel_end {G : Ghost} {cs : List Value} {n : Nat} (h : cs.length = n) : RelL G (cs.drop n) [] := by
  rw [List.drop_of_length_le (by omega)]; exact RelL.nil G
theorem one_piece {cs : List Value} {o s : Nat} (h : ∀ v ∈ (cs.drop o).take s, v.oneCell' = true) (k : ∀ v ∈ cs.drop (o + s), v.oneCell' = true) : ∀ v ∈ cs.drop o, v.oneCell' = true := by
  intro v hv
  rw [← List.take_append_drop s (cs.drop o), List.drop_drop] at hv
  rcases List.mem_append.1 hv with hv | hv
  · exact h v hv
  · exact k v hv
theorem one_end {cs : List Value} {n : Nat} (h : cs.length = n) : ∀ v ∈ cs.drop n, v.oneCell' = true := by
  rw [List.drop_of_length_le (by omega)]; intro v hv; cases hv
theorem opens_f {fs : Array Field} {α : Type} {e : α → AV} {wf : α → Prop} {H : Type} {enc : TypeId × Value → H} {w : World} {m : Nat} {cs : List Value} {xs : List (DataW H × List MemPlace)} (hx : ∀ (i : Nat) (f : Field), fs[i]? = some f → DataW.trod enc P w 0 (fun _ => true) true m f.type ((cs.drop f.offset).take (P.cellsOf f.type)) = xs[i]?) (hl : xs.length = fs.size)
    (i : Nat) {f : Field} {o s : Nat} (hf : fs[i]? = some f) (ht : Opens P f.type e wf) (ho : f.offset = o) (hs : P.cellsOf f.type = s) : ∃ y, wf y ∧ RelL (argG w) ((cs.drop o).take s) (e y).cells ∧ ∀ v ∈ (cs.drop o).take s, v.oneCell' = true := by
  subst ho; subst hs
  have h1 := hx i f hf
  have hi : i < fs.size := (Array.getElem?_eq_some_iff.1 hf).1
  rw [List.getElem?_eq_getElem (by omega)] at h1
  exact ht enc w m _ _ h1
/-- An argument, opened. -/
theorem Opens.arg {α : Type} {e : α → AV} {wf : α → Prop} (ho : Opens P t e wf) {sz : Nat} (he : Enc Ty t sz e) (hd : TdOk P t (tdOf Ty t)) {H : Type} {enc : TypeId × Value → H} {w : World} {r : Reach} {b0 : Nat} {v : Value} {d : DataW H} {ps : List MemPlace} (hval : Value.okWide P w r b0 t v) (h : DataW.Trod enc P w 0 (fun _ => true) true t v d ps) : ∃ y : α, wf y ∧ Rel (argG w) v (e y) := by
  obtain ⟨fuel, hf⟩ := h
  obtain ⟨y, h1, h2, _⟩ := ho enc w fuel _ _ hf
  refine ⟨y, h1, ?_⟩
  cases ha : isAggTD (tdOf Ty t) with
  | true =>
    have : ∃ cs, v = .agg cs := by
      cases htd : tdOf Ty t <;> rw [htd] at ha hd <;> simp [isAggTD] at ha
      · simp only [TdOk] at hd
        simp only [Value.okWide, hd] at hval
        obtain ⟨cs, h, _⟩ := hval; exact ⟨cs, h⟩
      · simp only [TdOk] at hd
        obtain ⟨fs, hd, _⟩ := hd
        simp only [Value.okWide, hd] at hval
        obtain ⟨cs, h, _⟩ := hval; exact ⟨cs, h⟩
    obtain ⟨cs, rfl⟩ := this
    rw [he.agg ha y]
    exact mkAgg (by simpa [Value.cells] using h2)
  | false =>
    rw [he.one ha y] at h2
    have hne : ∀ cs, v ≠ .agg cs := by
      rintro cs rfl
      have hl := h2.len
      simp only [Value.cells, List.length_singleton] at hl
      cases htd : tdOf Ty t <;> rw [htd] at ha hd <;> simp [isAggTD] at ha <;> simp only [TdOk] at hd
      case iface => obtain ⟨ms, hd⟩ := hd; simp [Value.okWide, hd, Cell.okWide, Cell.ok] at hval
      case func => obtain ⟨ps, rs, vv, hd⟩ := hd; simp [Value.okWide, hd, Cell.okWide, Cell.ok] at hval
      all_goals simp [Value.okWide, hd, Cell.okWide, Cell.ok] at hval
    have hc : v.cells.toList = [v] := by cases v <;> first | rfl | exact absurd rfl (hne _)
    rw [hc] at h2
    exact h2.at_ 0 v (e y) rfl rfl
end
end Go.Va
namespace Go.Va
open Go Go.RowKit
set_option linter.unusedVariables false
set_option linter.unusedSimpArgs false
mutual
/-- A value that speaks of no variable, and of no room. -/
def purA : AV → Bool
  | .sl .no _ es => purL es
  | .sl .full _ _ => false
  | .sl (.own _) _ _ => false
  | .agg cs => purL cs
  | .tup vs => purL vs
  | .fptr x _ => purL x
  | .iface _ v => purA v
  | .fn _ a b => purL a && purL b
  | .ref _ _ => false
  | .msl _ _ _ => false
  | .vec _ _ _ => false
  | .vc _ _ _ _ _ => false
  | .junk => true
  | .int _ _ => true
  | .bool _ => true
  | .str _ => true
  | .nilp => true
  | .nils => true
  | .nilm => true
  | .nilf => true
  | .nili => true
def purL : List AV → Bool
  | [] => true
  | a :: l => purA a && purL l
end
theorem purL_iff : ∀ {l : List AV}, purL l = true ↔ ∀ a ∈ l, purA a = true
  | [] => by simp [purL]
  | a :: l => by simp [purL, purL_iff (l := l)]
theorem purL_append (l m : List AV) : purL (l ++ m) = (purL l && purL m) := by
  induction l with
  | nil => simp [purL]
  | cons a l ih => simp [purL, ih, Bool.and_assoc]
theorem pur_cells {a x : AV} (h : purA a = true) (hx : x ∈ a.cells) : purA x = true := by
  cases a with
  | agg cs =>
    have h' : purL cs = true := by simpa [purA] using h
    exact purL_iff.1 h' x hx
  | _ => simp [AV.cells] at hx; subst hx; exact h
theorem Rel.pur {G G2 : Ghost} (hz : ∀ b o u, G.fz b o = some u → G2.fz b o = some u) {v : Value} {a : AV} (h : Rel G v a) (hp : purA a = true) : Rel G2 v a := by
  induction h with
  | junk v => exact .junk v
  | int k n => exact .int k n
  | bool b => exact .bool b
  | str s => exact .str s
  | nilp => exact .nilp
  | nils => exact .nils
  | nilm => exact .nilm
  | nilf => exact .nilf
  | nili => exact .nili
  | agg vs aas hl _ ih => exact .agg vs aas hl fun i v a h1 h2 => ih i v a h1 h2 (purL_iff.1 (by simpa [purA] using hp) a (List.mem_of_getElem? h2))
  | tup vs aas hl _ ih => exact .tup vs aas hl fun i v a h1 h2 => ih i v a h1 h2 (purL_iff.1 (by simpa [purA] using hp) a (List.mem_of_getElem? h2))
  | sl b o c t sz es val hc hm hzz hf _ ht ih =>
    cases t with
    | no =>
      have hp' : ∀ e ∈ es, purA e = true := purL_iff.1 (by simpa [purA] using hp)
      exact .sl b o c .no sz es val hc hm hzz (fun i e j a h1 h2 => hz _ _ _ (hf i e j a h1 h2)) (fun i e j a h1 h2 => ih i e j a h1 h2 (pur_cells (hp' e (List.mem_of_getElem? h1)) (List.mem_of_getElem? h2))) trivial
    | _ => cases hp
  | sl0 A c t sz hm ht =>
    cases t with
    | no => exact .sl0 A c .no sz hm (.inl rfl)
    | _ => cases hp
  | fptr b o off x val hf _ ih =>
    have hp' : ∀ e ∈ x, purA e = true := purL_iff.1 (by simpa [purA] using hp)
    exact .fptr b o off x val (fun j a h1 => hz _ _ _ (hf j a h1)) fun j a h1 => ih j a h1 (hp' a (List.mem_of_getElem? h1))
  | ref id off b h => cases hp
  | msl id off len c b hc h => cases hp
  | vec id sz len c b h0 hc hm h hs => cases hp
  | vec0 A id sz => cases hp
  | vc id sz off len c b hc hm h hs => cases hp
  | iface t v a _ ih => exact .iface t v a (ih (by simpa [purA] using hp))
  | fn f fs cs fa ca hl hk _ _ ih1 ih2 =>
    simp only [purA, Bool.and_eq_true] at hp
    exact .fn f fs cs fa ca hl hk (fun i v a h1 h2 => ih1 i v a h1 h2 (purL_iff.1 hp.1 a (List.mem_of_getElem? h2))) (fun i v a h1 h2 => ih2 i v a h1 h2 (purL_iff.1 hp.2 a (List.mem_of_getElem? h2)))
theorem pur_eL {α : Type} {e : α → AV} {sz : Nat} (h : ∀ x, purA (e x) = true) (l : List α) : purA (eL sz e l) = true := by
  simp only [eL, purA]
  exact purL_iff.2 fun a ha => by obtain ⟨x, _, rfl⟩ := List.mem_map.1 ha; exact h x
/-- What an argument is seen as. -/
inductive BArg (σ : St) : AV → AV → Prop where
  | wk {a b : AV} (h : Wk a b) (hp : purA b = true) : BArg σ a b
  | vec {id sz n : Nat} {es : List AV} (hc : σ.objs[id]? = some (flat es)) (hn : n = es.length) (hz : ∀ e ∈ es, e.cells.length = sz) (hs : sz ≠ 0) (hp : purL es = true) : BArg σ (.vec id sz n) (.sl .no sz es)
theorem BArg.vecl {Ty : TypeId → Option TI} {σ0 σ : St} {O : List (Nat × List AV)} {A : List Nat} (hH : Holds σ0 O A σ) (k : Nat) {id sz n : Nat} {α : Type} {e : α → AV} {l : List α} {E : TypeId} (hk : O[k]? = some (id, cL e l)) (hn : l.length = n) (he : Enc Ty E sz e) (hp : ∀ x, purA (e x) = true) : BArg σ (.vec id sz n) (eL sz e l) :=
  .vec (es := l.map e) (hH.at_ k hk) (by rw [List.length_map]; exact hn.symm) (fun y hy => by obtain ⟨x, _, rfl⟩ := List.mem_map.1 hy; exact he.len x) he.pos (purL_iff.2 fun y hy => by obtain ⟨x, _, rfl⟩ := List.mem_map.1 hy; exact hp x)
inductive BArgs (σ : St) : List AV → List AV → Prop where
  | nil : BArgs σ [] []
  | cons {a b : AV} {aas bs : List AV} (h : BArg σ a b) (t : BArgs σ aas bs) : BArgs σ (a :: aas) (b :: bs)
theorem BArg.rel {σ : St} {w0 : World} {G : Ghost} {w : World} (hI : Inv w0 G w σ) {a b : AV} (h : BArg σ a b) {v : Value} (hr : Rel G v a) : Rel (argG w) v b := by
  have hz : ∀ b o u, G.fz b o = some u → (argG w).fz b o = some u := fun b o u hf => argG_fz (hI.fz b o u hf).1 (hI.fz b o u hf).2
  cases h with
  | wk h hp => exact (h G v hr).pur hz hp
  | @vec id sz n es hc hn hzz hs hp =>
    have hfl := flat_length hzz
    cases hr with
    | vec0 A _ _ =>
      have hnil : es = [] := List.eq_nil_of_length_eq_zero hn.symm
      subst hnil
      exact .sl0 A 0 .no sz (Nat.zero_le _) (.inl rfl)
    | vec _ _ _ c b h0 hc' hm hl hbs =>
      have hne : flat es ≠ [] := fun he => by
        have h2 : (flat es).length = 0 := by rw [he]; rfl
        rw [hfl] at h2
        rcases Nat.mul_eq_zero.1 h2 with h | h
        · omega
        · exact hs h
      obtain ⟨b', T, vs, k1, k2, k3, k4, k5, k6⟩ := hI.loc _ _ hc hne
      rw [hl] at k1
      injection k1 with k1
      subst k1
      have hrel : RelL (argG w) (vs.toList.take (flat es).length) (flat es) := ⟨k4.rel.len, fun i u a h1 h2 => (k4.rel.at_ i u a h1 h2).pur hz (by
        obtain ⟨e, he, ha⟩ := List.mem_flatMap.1 (show a ∈ es.flatMap AV.cells from by have := List.mem_of_getElem? h2; simpa [flat] using this)
        exact pur_cells (purL_iff.1 hp e he) ha)⟩
      rw [hn]
      refine Rel.mkSl (b := b) (o := 0) (t := .no) (by omega) hm hzz hrel (fun j u hu => ?_) trivial
      rw [Nat.zero_add]
      rw [List.getElem?_take] at hu
      split at hu
      · refine argG_fz ?_ (k5 u (List.mem_iff_getElem?.2 ⟨j, hu⟩))
        rw [cell_of_row _ _ _ vs T (0, 0) k3]
        simpa using hu
      · cases hu
theorem BArgs.rel {σ : St} {w0 : World} {G : Ghost} {w : World} (hI : Inv w0 G w σ) : ∀ {aas bs : List AV} (_ : BArgs σ aas bs) {vs : List Value}, RelL G vs aas → RelL (argG w) vs bs
  | _, _, .nil, vs, h => ⟨h.len, fun i v a _ h2 => by simp at h2⟩
  | _, _, .cons (a := a) h t, vs, hr => by
    cases vs with
    | nil => have := hr.len; simp at this
    | cons v vs =>
      exact RelL.cons (h.rel hI (hr.at_ 0 v a rfl rfl)) (t.rel hI ⟨by simpa using hr.len, fun i u b e1 e2 => hr.at_ (i + 1) u b (by simpa using e1) (by simpa using e2)⟩)
/-- A value that speaks of no memory. -/
def sclA : AV → Bool
  | .int _ _ => true
  | .bool _ => true
  | .str _ => true
  | .tup [] => true
  | .tup [.int _ _, .bool _] => true
  | .tup [.int _ _, .int _ _] => true
  | _ => false
theorem Rel.scl {G G2 : Ghost} {v : Value} {a : AV} (h : Rel G v a) (hs : sclA a = true) : Rel G2 v a := by
  unfold sclA at hs
  split at hs
  · cases h; exact .int _ _
  · cases h; exact .bool _
  · cases h; exact .str _
  · cases h with | tup vs _ hl _ => exact .tup vs [] hl (fun i v a _ h => by simp at h)
  · cases h with | tup vs _ hl h =>
    refine .tup vs _ hl fun i v a h1 h2 => ?_
    have := h i v a h1 h2
    match i, h2 with
    | 0, h2 => simp at h2; subst h2; cases this; exact .int _ _
    | 1, h2 => simp at h2; subst h2; cases this; exact .bool _
    | i + 2, h2 => simp at h2
  · cases h with | tup vs _ hl h =>
    refine .tup vs _ hl fun i v a h1 h2 => ?_
    have := h i v a h1 h2
    match i, h2 with
    | 0, h2 => simp at h2; subst h2; cases this; exact .int _ _
    | 1, h2 => simp at h2; subst h2; cases this; exact .int _ _
    | i + 2, h2 => simp at h2
  · cases hs
/-- A world that goes on beside all that was there. -/
theorem Inv.extend {w0 : World} {G : Ghost} {w w' : World} {σ : St} (h : Inv w0 G w σ) (hb : Below w.heap.size w w') : Inv w0 G w' σ := by
  have hc : ∀ b o v, w.cell? ⟨b, o, none⟩ = some v → w'.cell? ⟨b, o, none⟩ = some v := fun b o v hv => by
    rw [hb.cell (World.block_lt_of_cell? w ⟨b, o, none⟩ hv)]; exact hv
  have hh : ∀ {b : Nat} {x : Obj}, w.heap[b]? = some x → w'.heap[b]? = some x := fun {b x} hx => by
    rw [hb.block b (Array.getElem?_eq_some_iff.1 hx).1]; exact hx
  exact ⟨h.below.trans (hb.mono h.below.size), fun b o v hf => ⟨hc b o v (h.fz b o v hf).1, (h.fz b o v hf).2⟩, fun id c hc' hn => by
    obtain ⟨b, T, vs, e1, e2, e3, e4, e5, e6⟩ := h.loc id c hc' hn
    exact ⟨b, T, vs, e1, e2, hh e3, e4, e5, e6⟩, h.locfz, fun id b hl => Nat.lt_of_lt_of_le (h.loclt id b hl) hb.size, h.locdom, h.locinj, fun t b top en ho ht => by
    obtain ⟨e1, ⟨cs, T, e2, e3⟩, e4, e5⟩ := h.tok t b top en ho ht
    exact ⟨e1, ⟨cs, T, hh e2, e3⟩, e4, e5⟩, h.tokdom, h.tokinj, h.nt, fun b hb' => by
    obtain ⟨e1, e2, e3, e4⟩ := h.lit b hb'
    exact ⟨e1, Nat.lt_of_lt_of_le e2 hb.size, e3, e4⟩, h.gl⟩
theorem Inv.glw {w0 : World} {G : Ghost} {w : World} {σ : St} (h : Inv w0 G w σ) : ∀ p ∈ σ.gl, w.cell? p.1 = some p.2 := fun p hp => by
  have := h.gl p hp
  rw [h.below.cell (World.block_lt_of_cell? w0 p.1 this)]
  exact this
section
variable {P : Program} {Ty : TypeId → Option TI} {σ : St} {fr : Nat → AV}
theorem OpS.borrow {o : Oper} {f : Operand} {xs : List Operand} {g : FuncId} {first cap args : List AV} {b : AV} (hc : callOf o = some (f, xs)) (hf : aeval fr f = .fn (.func g) first cap) (hargs : BArgs σ (first ++ xs.map (aeval fr) ++ cap) args) (hb : sclA b = true) (hcall : ACall P g args ⟨[], [], σ.gl⟩ (fun a τ => a = b ∧ τ = ⟨[], [], σ.gl⟩)) : OpS P o fr σ (fun a τ => a = b ∧ τ = σ) := by
  have hmem : f ∈ o.op.operands ∧ ∀ y ∈ xs, y ∈ o.op.operands := by
    unfold callOf at hc
    split at hc
    case h_2 => cases hc
    rename_i c ho
    split at hc
    case h_2 => cases hc
    rename_i f' hcal
    simp at hc
    obtain ⟨rfl, rfl⟩ := hc
    rw [ho]
    simp only [Op.operands, Call.operands, hcal]
    exact ⟨by simp, fun y hy => Array.mem_append.2 (.inr (Array.mem_toList_iff.1 hy))⟩
  intro w0 G act w Q K' hI hr hK
  have hrf := hr f hmem.1
  rw [hf] at hrf
  cases hfv : act.eval f <;> rw [hfv] at hrf <;> cases hrf
  rename_i fs cs h1 h3 h2 h4
  unfold Oper.wp
  rw [call_run hc hfv hcall.1 w]
  simp only [Oper.upon]
  have hl1 : RelL G fs.toList first := ⟨by simpa using h1, fun i v a e1 e2 => h3 i v a (by simpa using e1) e2⟩
  have hl2 : RelL G cs.toList cap := ⟨by simpa using h2, fun i v a e1 e2 => h4 i v a (by simpa using e1) e2⟩
  have hl3 : RelL G (xs.map act.eval) (xs.map (aeval fr)) := ⟨by simp, fun i v x e1 e2 => by
    rw [List.getElem?_map] at e1 e2
    cases hx : xs[i]? with
    | none => rw [hx] at e1; cases e1
    | some y => rw [hx] at e1 e2; cases e1; cases e2; exact hr y (hmem.2 y (List.mem_of_getElem? hx))⟩
  have hrel := hargs.rel hI (vs := (fs ++ (xs.map act.eval).toArray ++ cs).toList) (by simpa using (hl1.append hl3).append hl2)
  refine (hcall.2 w (argG w) w _ (argG_inv w hI.glw) hrel).mono ?_
  rintro e w' ⟨v, x, σ', G', rfl, k1, k2, k3, rfl, rfl⟩
  exact hK v x σ w' G ⟨rfl, rfl⟩ (.refl G) (hI.extend k2.below) (k3.scl hb)
/-- A variable is seen as less. -/
theorem Inv.wko {w0 : World} {G : Ghost} {w : World} {σ : St} (h : Inv w0 G w σ) {id : Nat} {c c' : List AV} (hc : σ.objs[id]? = some c) (hw : WkL c c') : Inv w0 G w ⟨σ.objs.set id c', σ.opn, σ.gl⟩ := by
  have hlen : ∀ {a b : List AV}, WkL a b → a.length = b.length := by
    intro a b h
    induction h with
    | nil => rfl
    | cons _ _ ih => simp [ih]
  have hl := hlen hw
  have hlt := (List.getElem?_eq_some_iff.1 hc).1
  have key : ∀ (i : Nat) (d : List AV), (σ.objs.set id c')[i]? = some d → d ≠ [] → ∃ d', σ.objs[i]? = some d' ∧ d' ≠ [] ∧ WkL d' d := by
    intro i d hd hn
    rw [List.getElem?_set] at hd
    split at hd
    · rename_i he; subst he
      have hd' : c' = d := by
        first
          | exact Option.some.inj hd
          | (rw [if_pos hlt] at hd; exact Option.some.inj hd)
      subst hd'
      exact ⟨c, hc, fun h => by rw [h] at hl; exact hn (List.eq_nil_of_length_eq_zero hl.symm), hw⟩
    · exact ⟨d, hd, hn, .refl d⟩
  refine ⟨h.below, h.fz, fun i d hd hn => ?_, fun i b o d hl' hd hn => ?_, h.loclt, fun i b hl' => by simpa using h.locdom i b hl', fun i j b d e hi hj hd he hn hn' => ?_, fun t b top en ho ht => ?_, h.tokdom, h.tokinj, h.nt, h.lit, h.gl⟩
  · obtain ⟨d', a1, a2, a3⟩ := key i d hd hn
    obtain ⟨b, T, vs, e1, e2, e3, e4, e5, e6⟩ := h.loc i d' a1 a2
    have hdl := hlen a3
    exact ⟨b, T, vs, e1, e2, e3, ⟨by rw [← hdl]; exact e4.le, by rw [← hdl]; exact a3.rel e4.rel⟩, e5, e6⟩
  · obtain ⟨d', a1, a2, _⟩ := key i d hd hn
    exact h.locfz i b o d' hl' a1 a2
  · obtain ⟨d', a1, a2, _⟩ := key i d hd hn
    obtain ⟨e', b1, b2, _⟩ := key j e he hn'
    exact h.locinj i j b d' e' hi hj a1 b1 a2 b2
  · obtain ⟨e1, e2, e3, e4⟩ := h.tok t b top en ho ht
    refine ⟨e1, e2, e3, fun i hi => ?_⟩
    have h0 := e4 i hi
    rw [List.getElem?_set]
    split
    · rename_i he; subst he
      rw [hc] at h0; cases h0
      have : c' = [] := List.eq_nil_of_length_eq_zero hl.symm
      subst this
      first | rfl | rw [if_pos hlt]
    · exact h0
theorem AWP.wko {n : Nat} {c : Code} {Q : AExit → (Nat → AV) → St → Prop} {l : List (Nat × AV)} {σ0 : St} {O : List (Nat × List AV)} {A : List Nat} (hH : Holds σ0 O A σ) (k : Nat) {id : Nat} {c0 c1 : List AV} (hk : O[k]? = some (id, c0)) (hw : WkL c0 c1) (h : ∀ τ, Holds σ0 (O.set k (id, c1)) A τ → AWP P n c Q (Va.fm l) τ) : AWP P n c Q (Va.fm l) σ := fun w0 G a w hS =>
  h _ (hH.put k hk c1) w0 G a w ⟨hS.inv.wko (hH.at_ k hk) hw, hS.frm, hS.size, hS.defers⟩
theorem Holds.unbringAt {σ0 σ : St} {O : List (Nat × List AV)} {A : List Nat} (h : Holds σ0 O A σ) (k : Nat) {id : Nat} {c : List AV} (hk : O[k]? = some (id, c)) (h0 : σ0.objs[id]? = some c) : Holds σ0 (O.eraseIdx k) A σ := by
  have hsub := set_erase O k
  refine ⟨fun i d h1 h2 => ?_, h.opn, h.olen, h.tlen, fun p hp => h.obj p (hsub.subset hp), h.dist.sublist hsub, h.tok, h.tdist, h.gl⟩
  by_cases hi : i = id
  · subst hi
    rw [h0] at h1
    cases h1
    exact h.at_ k hk
  · refine h.base i d h1 (fun p hp => ?_)
    obtain ⟨j, hj⟩ := List.mem_iff_getElem?.1 hp
    by_cases hjk : j = k
    · subst hjk; rw [hk] at hj; cases hj; exact Ne.symm hi
    · exact h2 p (List.mem_eraseIdx_iff_getElem?.2 ⟨j, hjk, hj⟩)
end
end Go.Va
namespace Go.Va
open Go Go.RowKit
section
variable {P : Program} {Ty : TypeId → Option TI} {σ σ' : St} {fr : Nat → AV}
theorem OpS.of_run {o : Oper} {a : AV} (h : ∀ w0 G (ρ : Operand → Value) w, Inv w0 G w σ → (∀ x ∈ o.op.operands, Rel G (ρ x) (aeval fr x)) → ∃ v w' G', (execOp ρ o).run P w = .ok (.value v) w' ∧ G.Le G' ∧ Inv w0 G' w' σ' ∧ Rel G' v a) : OpS P o fr σ (fun a' τ => a' = a ∧ τ = σ') := by
  intro w0 G act w Q K' hI hr hK
  obtain ⟨v, w', G', h1, h2, h3, h4⟩ := h w0 G act.eval w hI hr
  unfold Oper.wp
  rw [h1]
  exact hK v a σ' w' G' ⟨rfl, rfl⟩ h2 h3 h4
/-- Things of a few simple fields, side by side. -/
def eqCells (P : Program) : List Field → List AV → List AV → Option Bool
  | [], _, _ => some true
  | f :: fs, cs, ds => if f.name = "_" then none else match cs[f.offset]?, ds[f.offset]?, P.underlying f.type with
    | some (.int k a), some (.int k' b), some (.int _) => if k = k' then (if a == b then eqCells P fs cs ds else some false) else none
    | some (.str a), some (.str b), some .string => if decide (a = b) then eqCells P fs cs ds else some false
    | some (.bool a), some (.bool b), some .bool => if a == b then eqCells P fs cs ds else some false
    | _, _, _ => none
theorem eqCells_run {G : Ghost} {w : World} : ∀ {fs : List Field} {cs ds : List AV} {b : Bool} {xs ys : Array Value}, RelL G xs.toList cs → RelL G ys.toList ds → eqCells P fs cs ds = some b → ∀ d : Nat, (Op.eqFields (d + 1) xs ys fs).run P w = .ok b w
  | [], cs, ds, b, xs, ys, _, _, h, d => by
    simp only [eqCells, Option.some.injEq] at h; subst h; simp [Op.eqFields]
  | f :: fs, cs, ds, b, xs, ys, hx, hy, h, d => by
    unfold eqCells at h
    split at h
    case isTrue => cases h
    rename_i hn
    have key : ∀ {a c : AV} {r : Bool}, cs[f.offset]? = some a → ds[f.offset]? = some c → ∃ u v, xs[f.offset]? = some u ∧ ys[f.offset]? = some v ∧ Rel G u a ∧ Rel G v c := by
      intro a c r h1 h2
      obtain ⟨u, hu, hru⟩ := hx.get h1
      obtain ⟨v, hv, hrv⟩ := hy.get h2
      exact ⟨u, v, by simpa using hu, by simpa using hv, hru, hrv⟩
    have pt : ∀ {ws : Array Value} {u : Value}, ws[f.offset]? = some u → (∀ fs, P.underlying f.type ≠ some (.struct fs)) → (∀ n e, P.underlying f.type ≠ some (.array n e)) → ∀ {dd : TypeDesc}, P.underlying f.type = some dd → (part f.type ws f.offset).run P w = .ok u w := by
      intro ws u hu h1 h2 dd hd
      have : (isAgg f.type).run P w = .ok false w := by
        simp only [isAgg, Sem.run_bind, run_underlying hd, Result.andThen_ok]
        cases dd <;> simp_all
      simp [part, this, hu]
    have step : ∀ {u v : Value} {r : Bool} {dd : TypeDesc}, xs[f.offset]? = some u → ys[f.offset]? = some v → P.underlying f.type = some dd → (∀ fs, dd ≠ .struct fs) → (∀ n e, dd ≠ .array n e) → (Op.equalIn (d + 1) f.type u v).run P w = .ok r w → (if r = true then eqCells P fs cs ds else some false) = some b → (Op.eqFields (d + 1) xs ys (f :: fs)).run P w = .ok b w := by
      intro u v r dd hu hv hd n1 n2 hr hb
      have p1 := pt hu (by rw [hd]; simpa using n1) (by rw [hd]; simpa using n2) hd
      have p2 := pt hv (by rw [hd]; simpa using n1) (by rw [hd]; simpa using n2) hd
      simp only [Op.eqFields, hn, ne_eq, not_false_eq_true, if_true, Sem.run_bind, p1, p2, Result.andThen_ok, hr]
      cases r with
      | true => simp only [if_true] at hb; simpa using eqCells_run hx hy hb d
      | false => simp at hb; subst hb; simp
    split at h
    · rename_i k a k' c k'' e1 e2 hd
      split at h
      case isFalse => cases h
      rename_i hk
      subst hk
      obtain ⟨u, v, hu, hv, r1, r2⟩ := key (r := true) e1 e2
      cases r1; cases r2
      exact step hu hv hd (by simp) (by simp) (run_equalIn_int w d f.type _ _ _ _ hd) h
    · rename_i a c e1 e2 hd
      obtain ⟨u, v, hu, hv, r1, r2⟩ := key (r := true) e1 e2
      cases r1; cases r2
      exact step hu hv hd (by simp) (by simp) (by rw [run_equalIn_string w d f.type _ _ hd, beq_str]) h
    · rename_i a c e1 e2 hd
      obtain ⟨u, v, hu, hv, r1, r2⟩ := key (r := true) e1 e2
      cases r1; cases r2
      exact step hu hv hd (by simp) (by simp) (run_equalIn_bool' w d f.type _ _ hd) h
    · cases h
variable {d : Option Tmp} {ty : TypeId} {pos : String} {af : Array Edge} {g : Option (Nat × Bool)} {ox oy oi : Operand} {T T' E U : TypeId}
theorem run_eq_agg {t : TypeId} {cs ds : List AV} {b : Bool} {G : Ghost} {w : World} {u v : Value} (hu : P.underlying t = some (.struct (P.fieldsOf t))) (hp : P.stoodInHeld t = false) (h : eqCells P (P.fieldsOf t).toList cs ds = some b) (h1 : Rel G u (.agg cs)) (h2 : Rel G v (.agg ds)) : (Op.equal t u v).run P w = .ok b w ∧ ∃ xs ys, u = .agg xs ∧ v = .agg ys := by
  cases h1 with | agg xs _ hl hr =>
  cases h2 with | agg ys _ hl' hr' =>
  refine ⟨?_, xs, ys, rfl, rfl⟩
  have hx : RelL G xs.toList cs := ⟨by simpa using hl, fun i v a e1 e2 => hr i v a (by simpa using e1) e2⟩
  have hy : RelL G ys.toList ds := ⟨by simpa using hl', fun i v a e1 e2 => hr' i v a (by simpa using e1) e2⟩
  show (Op.equalIn 10000 t (.agg xs) (.agg ys)).run P w = _
  rw [run_equalIn_struct w 9999 t xs ys hu hp]
  exact eqCells_run hx hy h 9998
theorem o_eql_st {cs ds : List AV} {b : Bool} (hu : P.underlying T = some (.struct (P.fieldsOf T))) (hp : P.stoodInHeld T = false) (hm : P.eqGuardType P.depth T = false) (h : eqCells P (P.fieldsOf T).toList cs ds = some b) (hx : aeval fr ox = .agg cs) (hy : aeval fr oy = .agg ds) : OpP P ⟨d, .binOp .eql T ox oy T', ty, pos, af, g⟩ fr (eB b) := fun τ => by
  refine OpS.of_run fun w0 G ρ w hI hr => ?_
  have r1 := hr ox (by simp [Op.operands])
  have r2 := hr oy (by simp [Op.operands])
  rw [hx] at r1; rw [hy] at r2
  obtain ⟨he, xs, ys, e1, e2⟩ := run_eq_agg (w := w) hu hp h r1 r2
  refine ⟨.bool b, w, G, ?_, .refl G, hI, .bool b⟩
  rw [e1, e2] at he
  have he' : (Op.equalIn 10000 T (.agg xs) (.agg ys)).run P w = .ok b w := he
  simp [execOp, e1, e2, Sem.run_bind, run_eqGuard_agg w _ _ _ _ _ _ hm, run_eql_struct, he']
theorem o_neq_st {cs ds : List AV} {b : Bool} (hu : P.underlying T = some (.struct (P.fieldsOf T))) (hp : P.stoodInHeld T = false) (hm : P.eqGuardType P.depth T = false) (h : eqCells P (P.fieldsOf T).toList cs ds = some b) (hx : aeval fr ox = .agg cs) (hy : aeval fr oy = .agg ds) : OpP P ⟨d, .binOp .neq T ox oy T', ty, pos, af, g⟩ fr (eB (!b)) := fun τ => by
  refine OpS.of_run fun w0 G ρ w hI hr => ?_
  have r1 := hr ox (by simp [Op.operands])
  have r2 := hr oy (by simp [Op.operands])
  rw [hx] at r1; rw [hy] at r2
  obtain ⟨he, xs, ys, e1, e2⟩ := run_eq_agg (w := w) hu hp h r1 r2
  refine ⟨.bool (!b), w, G, ?_, .refl G, hI, .bool _⟩
  rw [e1, e2] at he
  have he' : (Op.equalIn 10000 T (.agg xs) (.agg ys)).run P w = .ok b w := he
  simp [execOp, e1, e2, Sem.run_bind, run_eqGuard_agg w _ _ _ _ _ _ hm, run_neq_struct, he']
end
end Go.Va
namespace Go.Proofs.Ytiembjojiaobbaa
open Go Go.Va
set_option linter.unusedSimpArgs false
def ty : TypeId → Option TI
  | 1 => some ⟨.func, 1, 8, .nilf⟩
  | 2 => some ⟨.int .i64, 1, 8, .int .i64 0⟩
  | 3 => some ⟨.int .i64, 1, 8, .int .i64 0⟩
  | 4 => some ⟨.bool, 1, 1, .bool false⟩
  | 5 => some ⟨.int .u8, 1, 1, .int .u8 0⟩
  | 6 => some ⟨.int .u8, 1, 1, .int .u8 0⟩
  | 7 => some ⟨.struct [(0, 2), (1, 3), (2, 4), (3, 6)], 4, 24, .agg [.int .i64 0, .int .i64 0, .bool false, .int .u8 0]⟩
  | 8 => some ⟨.struct [(0, 2), (1, 3), (2, 4), (3, 6)], 4, 24, .agg [.int .i64 0, .int .i64 0, .bool false, .int .u8 0]⟩
  | 9 => some ⟨.str, 1, 16, .str ⟨#[]⟩⟩
  | 10 => some ⟨.str, 1, 16, .str ⟨#[]⟩⟩
  | 11 => some ⟨.str, 1, 16, .str ⟨#[]⟩⟩
  | 12 => some ⟨.int .u64, 1, 8, .int .u64 0⟩
  | 13 => some ⟨.struct [(0, 9), (1, 12)], 2, 24, .agg [.str ⟨#[]⟩, .int .u64 0]⟩
  | 14 => some ⟨.struct [(0, 9), (1, 12)], 2, 24, .agg [.str ⟨#[]⟩, .int .u64 0]⟩
  | 15 => some ⟨.ptr 37, 1, 8, .nilp⟩
  | 16 => some ⟨.ptr 40, 1, 8, .nilp⟩
  | 17 => some ⟨.ptr 49, 1, 8, .nilp⟩
  | 18 => some ⟨.struct [(0, 17)], 1, 8, .agg [.nilp]⟩
  | 19 => some ⟨.struct [(0, 17)], 1, 8, .agg [.nilp]⟩
  | 20 => some ⟨.iface, 1, 16, .nili⟩
  | 21 => some ⟨.int .i32, 1, 4, .int .i32 0⟩
  | 22 => some ⟨.slice 5, 1, 24, .nils⟩
  | 23 => some ⟨.int .u16, 1, 2, .int .u16 0⟩
  | 24 => some ⟨.int .u32, 1, 4, .int .u32 0⟩
  | 25 => some ⟨.func, 1, 8, .nilf⟩
  | 26 => some ⟨.func, 1, 8, .nilf⟩
  | 27 => some ⟨.func, 1, 8, .nilf⟩
  | 28 => some ⟨.func, 1, 8, .nilf⟩
  | 29 => some ⟨.func, 1, 8, .nilf⟩
  | 30 => some ⟨.arr 4 5, 4, 4, .agg [.int .u8 0, .int .u8 0, .int .u8 0, .int .u8 0]⟩
  | 31 => some ⟨.func, 1, 8, .nilf⟩
  | 32 => some ⟨.func, 1, 8, .nilf⟩
  | 33 => some ⟨.int .u64, 1, 8, .int .u64 0⟩
  | 34 => some ⟨.func, 1, 8, .nilf⟩
  | 35 => some ⟨.func, 1, 8, .nilf⟩
  | 36 => some ⟨.struct [(0, 17), (1, 17), (2, 17), (3, 9)], 4, 40, .agg [.nilp, .nilp, .nilp, .str ⟨#[]⟩]⟩
  | 37 => some ⟨.struct [(0, 17), (1, 17), (2, 17), (3, 9)], 4, 40, .agg [.nilp, .nilp, .nilp, .str ⟨#[]⟩]⟩
  | 41 => some ⟨.func, 1, 8, .nilf⟩
  | 42 => some ⟨.int .u8, 1, 1, .int .u8 0⟩
  | 43 => some ⟨.int .u8, 1, 1, .int .u8 0⟩
  | 44 => some ⟨.func, 1, 8, .nilf⟩
  | 45 => some ⟨.ptr 5, 1, 8, .nilp⟩
  | 46 => some ⟨.int .i32, 1, 4, .int .i32 0⟩
  | 47 => some ⟨.int .i32, 1, 4, .int .i32 0⟩
  | 48 => some ⟨.struct [(0, 12), (1, 12), (2, 24), (3, 42), (4, 5), (5, 5), (6, 43), (7, 44), (8, 45), (9, 46), (10, 47)], 11, 48, .agg [.int .u64 0, .int .u64 0, .int .u32 0, .int .u8 0, .int .u8 0, .int .u8 0, .int .u8 0, .nilf, .nilp, .int .i32 0, .int .i32 0]⟩
  | 49 => some ⟨.struct [(0, 12), (1, 12), (2, 24), (3, 42), (4, 5), (5, 5), (6, 43), (7, 44), (8, 45), (9, 46), (10, 47)], 11, 48, .agg [.int .u64 0, .int .u64 0, .int .u32 0, .int .u8 0, .int .u8 0, .int .u8 0, .int .u8 0, .nilf, .nilp, .int .i32 0, .int .i32 0]⟩
  | _ => none
theorem ty1 : ty 1 = some ⟨.func, 1, 8, .nilf⟩ := rfl
theorem td1 : tdOf ty 1 = .func := rfl
theorem sz1 : szOf ty 1 = 1 := rfl
theorem ty2 : ty 2 = some ⟨.int .i64, 1, 8, .int .i64 0⟩ := rfl
theorem td2 : tdOf ty 2 = .int .i64 := rfl
theorem sz2 : szOf ty 2 = 1 := rfl
theorem ty3 : ty 3 = some ⟨.int .i64, 1, 8, .int .i64 0⟩ := rfl
theorem td3 : tdOf ty 3 = .int .i64 := rfl
theorem sz3 : szOf ty 3 = 1 := rfl
theorem ty4 : ty 4 = some ⟨.bool, 1, 1, .bool false⟩ := rfl
theorem td4 : tdOf ty 4 = .bool := rfl
theorem sz4 : szOf ty 4 = 1 := rfl
theorem ty5 : ty 5 = some ⟨.int .u8, 1, 1, .int .u8 0⟩ := rfl
theorem td5 : tdOf ty 5 = .int .u8 := rfl
theorem sz5 : szOf ty 5 = 1 := rfl
theorem ty6 : ty 6 = some ⟨.int .u8, 1, 1, .int .u8 0⟩ := rfl
theorem td6 : tdOf ty 6 = .int .u8 := rfl
theorem sz6 : szOf ty 6 = 1 := rfl
theorem ty7 : ty 7 = some ⟨.struct [(0, 2), (1, 3), (2, 4), (3, 6)], 4, 24, .agg [.int .i64 0, .int .i64 0, .bool false, .int .u8 0]⟩ := rfl
theorem td7 : tdOf ty 7 = .struct [(0, 2), (1, 3), (2, 4), (3, 6)] := rfl
theorem sz7 : szOf ty 7 = 4 := rfl
theorem ty8 : ty 8 = some ⟨.struct [(0, 2), (1, 3), (2, 4), (3, 6)], 4, 24, .agg [.int .i64 0, .int .i64 0, .bool false, .int .u8 0]⟩ := rfl
theorem td8 : tdOf ty 8 = .struct [(0, 2), (1, 3), (2, 4), (3, 6)] := rfl
theorem sz8 : szOf ty 8 = 4 := rfl
theorem ty9 : ty 9 = some ⟨.str, 1, 16, .str ⟨#[]⟩⟩ := rfl
theorem td9 : tdOf ty 9 = .str := rfl
theorem sz9 : szOf ty 9 = 1 := rfl
theorem ty10 : ty 10 = some ⟨.str, 1, 16, .str ⟨#[]⟩⟩ := rfl
theorem td10 : tdOf ty 10 = .str := rfl
theorem sz10 : szOf ty 10 = 1 := rfl
theorem ty11 : ty 11 = some ⟨.str, 1, 16, .str ⟨#[]⟩⟩ := rfl
theorem td11 : tdOf ty 11 = .str := rfl
theorem sz11 : szOf ty 11 = 1 := rfl
theorem ty12 : ty 12 = some ⟨.int .u64, 1, 8, .int .u64 0⟩ := rfl
theorem td12 : tdOf ty 12 = .int .u64 := rfl
theorem sz12 : szOf ty 12 = 1 := rfl
theorem ty13 : ty 13 = some ⟨.struct [(0, 9), (1, 12)], 2, 24, .agg [.str ⟨#[]⟩, .int .u64 0]⟩ := rfl
theorem td13 : tdOf ty 13 = .struct [(0, 9), (1, 12)] := rfl
theorem sz13 : szOf ty 13 = 2 := rfl
theorem ty14 : ty 14 = some ⟨.struct [(0, 9), (1, 12)], 2, 24, .agg [.str ⟨#[]⟩, .int .u64 0]⟩ := rfl
theorem td14 : tdOf ty 14 = .struct [(0, 9), (1, 12)] := rfl
theorem sz14 : szOf ty 14 = 2 := rfl
theorem ty15 : ty 15 = some ⟨.ptr 37, 1, 8, .nilp⟩ := rfl
theorem td15 : tdOf ty 15 = .ptr 37 := rfl
theorem sz15 : szOf ty 15 = 1 := rfl
theorem ty16 : ty 16 = some ⟨.ptr 40, 1, 8, .nilp⟩ := rfl
theorem td16 : tdOf ty 16 = .ptr 40 := rfl
theorem sz16 : szOf ty 16 = 1 := rfl
theorem ty17 : ty 17 = some ⟨.ptr 49, 1, 8, .nilp⟩ := rfl
theorem td17 : tdOf ty 17 = .ptr 49 := rfl
theorem sz17 : szOf ty 17 = 1 := rfl
theorem ty18 : ty 18 = some ⟨.struct [(0, 17)], 1, 8, .agg [.nilp]⟩ := rfl
theorem td18 : tdOf ty 18 = .struct [(0, 17)] := rfl
theorem sz18 : szOf ty 18 = 1 := rfl
theorem ty19 : ty 19 = some ⟨.struct [(0, 17)], 1, 8, .agg [.nilp]⟩ := rfl
theorem td19 : tdOf ty 19 = .struct [(0, 17)] := rfl
theorem sz19 : szOf ty 19 = 1 := rfl
theorem ty20 : ty 20 = some ⟨.iface, 1, 16, .nili⟩ := rfl
theorem td20 : tdOf ty 20 = .iface := rfl
theorem sz20 : szOf ty 20 = 1 := rfl
theorem ty21 : ty 21 = some ⟨.int .i32, 1, 4, .int .i32 0⟩ := rfl
theorem td21 : tdOf ty 21 = .int .i32 := rfl
theorem sz21 : szOf ty 21 = 1 := rfl
theorem ty22 : ty 22 = some ⟨.slice 5, 1, 24, .nils⟩ := rfl
theorem td22 : tdOf ty 22 = .slice 5 := rfl
theorem sz22 : szOf ty 22 = 1 := rfl
theorem ty23 : ty 23 = some ⟨.int .u16, 1, 2, .int .u16 0⟩ := rfl
theorem td23 : tdOf ty 23 = .int .u16 := rfl
theorem sz23 : szOf ty 23 = 1 := rfl
theorem ty24 : ty 24 = some ⟨.int .u32, 1, 4, .int .u32 0⟩ := rfl
theorem td24 : tdOf ty 24 = .int .u32 := rfl
theorem sz24 : szOf ty 24 = 1 := rfl
theorem ty25 : ty 25 = some ⟨.func, 1, 8, .nilf⟩ := rfl
theorem td25 : tdOf ty 25 = .func := rfl
theorem sz25 : szOf ty 25 = 1 := rfl
theorem ty26 : ty 26 = some ⟨.func, 1, 8, .nilf⟩ := rfl
theorem td26 : tdOf ty 26 = .func := rfl
theorem sz26 : szOf ty 26 = 1 := rfl
theorem ty27 : ty 27 = some ⟨.func, 1, 8, .nilf⟩ := rfl
theorem td27 : tdOf ty 27 = .func := rfl
theorem sz27 : szOf ty 27 = 1 := rfl
theorem ty28 : ty 28 = some ⟨.func, 1, 8, .nilf⟩ := rfl
theorem td28 : tdOf ty 28 = .func := rfl
theorem sz28 : szOf ty 28 = 1 := rfl
theorem ty29 : ty 29 = some ⟨.func, 1, 8, .nilf⟩ := rfl
theorem td29 : tdOf ty 29 = .func := rfl
theorem sz29 : szOf ty 29 = 1 := rfl
theorem ty30 : ty 30 = some ⟨.arr 4 5, 4, 4, .agg [.int .u8 0, .int .u8 0, .int .u8 0, .int .u8 0]⟩ := rfl
theorem td30 : tdOf ty 30 = .arr 4 5 := rfl
theorem sz30 : szOf ty 30 = 4 := rfl
theorem ty31 : ty 31 = some ⟨.func, 1, 8, .nilf⟩ := rfl
theorem td31 : tdOf ty 31 = .func := rfl
theorem sz31 : szOf ty 31 = 1 := rfl
theorem ty32 : ty 32 = some ⟨.func, 1, 8, .nilf⟩ := rfl
theorem td32 : tdOf ty 32 = .func := rfl
theorem sz32 : szOf ty 32 = 1 := rfl
theorem ty33 : ty 33 = some ⟨.int .u64, 1, 8, .int .u64 0⟩ := rfl
theorem td33 : tdOf ty 33 = .int .u64 := rfl
theorem sz33 : szOf ty 33 = 1 := rfl
theorem ty34 : ty 34 = some ⟨.func, 1, 8, .nilf⟩ := rfl
theorem td34 : tdOf ty 34 = .func := rfl
theorem sz34 : szOf ty 34 = 1 := rfl
theorem ty35 : ty 35 = some ⟨.func, 1, 8, .nilf⟩ := rfl
theorem td35 : tdOf ty 35 = .func := rfl
theorem sz35 : szOf ty 35 = 1 := rfl
theorem ty36 : ty 36 = some ⟨.struct [(0, 17), (1, 17), (2, 17), (3, 9)], 4, 40, .agg [.nilp, .nilp, .nilp, .str ⟨#[]⟩]⟩ := rfl
theorem td36 : tdOf ty 36 = .struct [(0, 17), (1, 17), (2, 17), (3, 9)] := rfl
theorem sz36 : szOf ty 36 = 4 := rfl
theorem ty37 : ty 37 = some ⟨.struct [(0, 17), (1, 17), (2, 17), (3, 9)], 4, 40, .agg [.nilp, .nilp, .nilp, .str ⟨#[]⟩]⟩ := rfl
theorem td37 : tdOf ty 37 = .struct [(0, 17), (1, 17), (2, 17), (3, 9)] := rfl
theorem sz37 : szOf ty 37 = 4 := rfl
theorem ty41 : ty 41 = some ⟨.func, 1, 8, .nilf⟩ := rfl
theorem td41 : tdOf ty 41 = .func := rfl
theorem sz41 : szOf ty 41 = 1 := rfl
theorem ty42 : ty 42 = some ⟨.int .u8, 1, 1, .int .u8 0⟩ := rfl
theorem td42 : tdOf ty 42 = .int .u8 := rfl
theorem sz42 : szOf ty 42 = 1 := rfl
theorem ty43 : ty 43 = some ⟨.int .u8, 1, 1, .int .u8 0⟩ := rfl
theorem td43 : tdOf ty 43 = .int .u8 := rfl
theorem sz43 : szOf ty 43 = 1 := rfl
theorem ty44 : ty 44 = some ⟨.func, 1, 8, .nilf⟩ := rfl
theorem td44 : tdOf ty 44 = .func := rfl
theorem sz44 : szOf ty 44 = 1 := rfl
theorem ty45 : ty 45 = some ⟨.ptr 5, 1, 8, .nilp⟩ := rfl
theorem td45 : tdOf ty 45 = .ptr 5 := rfl
theorem sz45 : szOf ty 45 = 1 := rfl
theorem ty46 : ty 46 = some ⟨.int .i32, 1, 4, .int .i32 0⟩ := rfl
theorem td46 : tdOf ty 46 = .int .i32 := rfl
theorem sz46 : szOf ty 46 = 1 := rfl
theorem ty47 : ty 47 = some ⟨.int .i32, 1, 4, .int .i32 0⟩ := rfl
theorem td47 : tdOf ty 47 = .int .i32 := rfl
theorem sz47 : szOf ty 47 = 1 := rfl
theorem ty48 : ty 48 = some ⟨.struct [(0, 12), (1, 12), (2, 24), (3, 42), (4, 5), (5, 5), (6, 43), (7, 44), (8, 45), (9, 46), (10, 47)], 11, 48, .agg [.int .u64 0, .int .u64 0, .int .u32 0, .int .u8 0, .int .u8 0, .int .u8 0, .int .u8 0, .nilf, .nilp, .int .i32 0, .int .i32 0]⟩ := rfl
theorem td48 : tdOf ty 48 = .struct [(0, 12), (1, 12), (2, 24), (3, 42), (4, 5), (5, 5), (6, 43), (7, 44), (8, 45), (9, 46), (10, 47)] := rfl
theorem sz48 : szOf ty 48 = 11 := rfl
theorem ty49 : ty 49 = some ⟨.struct [(0, 12), (1, 12), (2, 24), (3, 42), (4, 5), (5, 5), (6, 43), (7, 44), (8, 45), (9, 46), (10, 47)], 11, 48, .agg [.int .u64 0, .int .u64 0, .int .u32 0, .int .u8 0, .int .u8 0, .int .u8 0, .int .u8 0, .nilf, .nilp, .int .i32 0, .int .i32 0]⟩ := rfl
theorem td49 : tdOf ty 49 = .struct [(0, 12), (1, 12), (2, 24), (3, 42), (4, 5), (5, 5), (6, 43), (7, 44), (8, 45), (9, 46), (10, 47)] := rfl
theorem sz49 : szOf ty 49 = 11 := rfl
theorem ok1 : TiOk Try.prog 1 ⟨.func, 1, 8, .nilf⟩ := tiOk_mk (.nilFunc) ⟨_, _, _, Try.underlying1⟩ (by kernel_rfl) rfl rfl rfl (by simp [Value.cells, Value.oneCell'])
theorem ok2 : TiOk Try.prog 2 ⟨.int .i64, 1, 8, .int .i64 0⟩ := tiOk_mk (.int .i64 0) Try.underlying2 (by kernel_rfl) rfl rfl rfl (by simp [Value.cells, Value.oneCell'])
theorem ok3 : TiOk Try.prog 3 ⟨.int .i64, 1, 8, .int .i64 0⟩ := tiOk_mk (.int .i64 0) Try.underlying3 (by kernel_rfl) rfl rfl rfl (by simp [Value.cells, Value.oneCell'])
theorem ok4 : TiOk Try.prog 4 ⟨.bool, 1, 1, .bool false⟩ := tiOk_mk (.bool false) Try.underlying4 (by kernel_rfl) rfl rfl rfl (by simp [Value.cells, Value.oneCell'])
theorem ok5 : TiOk Try.prog 5 ⟨.int .u8, 1, 1, .int .u8 0⟩ := tiOk_mk (.int .u8 0) Try.underlying5 (by kernel_rfl) rfl rfl rfl (by simp [Value.cells, Value.oneCell'])
theorem ok6 : TiOk Try.prog 6 ⟨.int .u8, 1, 1, .int .u8 0⟩ := tiOk_mk (.int .u8 0) Try.underlying6 (by kernel_rfl) rfl rfl rfl (by simp [Value.cells, Value.oneCell'])
theorem ok7 : TiOk Try.prog 7 ⟨.struct [(0, 2), (1, 3), (2, 4), (3, 6)], 4, 24, .agg [.int .i64 0, .int .i64 0, .bool false, .int .u8 0]⟩ := tiOk_mk (.agg #[.int .i64 0, .int .i64 0, .bool false, .int .u8 0]) ⟨_, Try.underlying7, rfl⟩ (by kernel_rfl) rfl rfl rfl (by simp [Value.cells, Value.oneCell'])
theorem ok8 : TiOk Try.prog 8 ⟨.struct [(0, 2), (1, 3), (2, 4), (3, 6)], 4, 24, .agg [.int .i64 0, .int .i64 0, .bool false, .int .u8 0]⟩ := tiOk_mk (.agg #[.int .i64 0, .int .i64 0, .bool false, .int .u8 0]) ⟨_, Try.underlying8, rfl⟩ (by kernel_rfl) rfl rfl rfl (by simp [Value.cells, Value.oneCell'])
theorem ok9 : TiOk Try.prog 9 ⟨.str, 1, 16, .str ⟨#[]⟩⟩ := tiOk_mk (.string ⟨#[]⟩) Try.underlying9 (by kernel_rfl) rfl rfl rfl (by simp [Value.cells, Value.oneCell'])
theorem ok10 : TiOk Try.prog 10 ⟨.str, 1, 16, .str ⟨#[]⟩⟩ := tiOk_mk (.string ⟨#[]⟩) Try.underlying10 (by kernel_rfl) rfl rfl rfl (by simp [Value.cells, Value.oneCell'])
theorem ok11 : TiOk Try.prog 11 ⟨.str, 1, 16, .str ⟨#[]⟩⟩ := tiOk_mk (.string ⟨#[]⟩) Try.underlying11 (by kernel_rfl) rfl rfl rfl (by simp [Value.cells, Value.oneCell'])
theorem ok12 : TiOk Try.prog 12 ⟨.int .u64, 1, 8, .int .u64 0⟩ := tiOk_mk (.int .u64 0) Try.underlying12 (by kernel_rfl) rfl rfl rfl (by simp [Value.cells, Value.oneCell'])
theorem ok13 : TiOk Try.prog 13 ⟨.struct [(0, 9), (1, 12)], 2, 24, .agg [.str ⟨#[]⟩, .int .u64 0]⟩ := tiOk_mk (.agg #[.string ⟨#[]⟩, .int .u64 0]) ⟨_, Try.underlying13, rfl⟩ (by kernel_rfl) rfl rfl rfl (by simp [Value.cells, Value.oneCell'])
theorem ok14 : TiOk Try.prog 14 ⟨.struct [(0, 9), (1, 12)], 2, 24, .agg [.str ⟨#[]⟩, .int .u64 0]⟩ := tiOk_mk (.agg #[.string ⟨#[]⟩, .int .u64 0]) ⟨_, Try.underlying14, rfl⟩ (by kernel_rfl) rfl rfl rfl (by simp [Value.cells, Value.oneCell'])
theorem ok15 : TiOk Try.prog 15 ⟨.ptr 37, 1, 8, .nilp⟩ := tiOk_mk (.pointer none) Try.underlying15 (by kernel_rfl) rfl rfl rfl (by simp [Value.cells, Value.oneCell'])
theorem ok16 : TiOk Try.prog 16 ⟨.ptr 40, 1, 8, .nilp⟩ := tiOk_mk (.pointer none) Try.underlying16 (by kernel_rfl) rfl rfl rfl (by simp [Value.cells, Value.oneCell'])
theorem ok17 : TiOk Try.prog 17 ⟨.ptr 49, 1, 8, .nilp⟩ := tiOk_mk (.pointer none) Try.underlying17 (by kernel_rfl) rfl rfl rfl (by simp [Value.cells, Value.oneCell'])
theorem ok18 : TiOk Try.prog 18 ⟨.struct [(0, 17)], 1, 8, .agg [.nilp]⟩ := tiOk_mk (.agg #[.pointer none]) ⟨_, Try.underlying18, rfl⟩ (by kernel_rfl) rfl rfl rfl (by simp [Value.cells, Value.oneCell'])
theorem ok19 : TiOk Try.prog 19 ⟨.struct [(0, 17)], 1, 8, .agg [.nilp]⟩ := tiOk_mk (.agg #[.pointer none]) ⟨_, Try.underlying19, rfl⟩ (by kernel_rfl) rfl rfl rfl (by simp [Value.cells, Value.oneCell'])
theorem ok20 : TiOk Try.prog 20 ⟨.iface, 1, 16, .nili⟩ := tiOk_mk (.nilIface) ⟨_, Try.underlying20⟩ (by kernel_rfl) rfl rfl rfl (by simp [Value.cells, Value.oneCell'])
theorem ok21 : TiOk Try.prog 21 ⟨.int .i32, 1, 4, .int .i32 0⟩ := tiOk_mk (.int .i32 0) Try.underlying21 (by kernel_rfl) rfl rfl rfl (by simp [Value.cells, Value.oneCell'])
theorem ok22 : TiOk Try.prog 22 ⟨.slice 5, 1, 24, .nils⟩ := tiOk_mk (.slice none 0 0) Try.underlying22 (by kernel_rfl) rfl rfl rfl (by simp [Value.cells, Value.oneCell'])
theorem ok23 : TiOk Try.prog 23 ⟨.int .u16, 1, 2, .int .u16 0⟩ := tiOk_mk (.int .u16 0) Try.underlying23 (by kernel_rfl) rfl rfl rfl (by simp [Value.cells, Value.oneCell'])
theorem ok24 : TiOk Try.prog 24 ⟨.int .u32, 1, 4, .int .u32 0⟩ := tiOk_mk (.int .u32 0) Try.underlying24 (by kernel_rfl) rfl rfl rfl (by simp [Value.cells, Value.oneCell'])
theorem ok25 : TiOk Try.prog 25 ⟨.func, 1, 8, .nilf⟩ := tiOk_mk (.nilFunc) ⟨_, _, _, Try.underlying25⟩ (by kernel_rfl) rfl rfl rfl (by simp [Value.cells, Value.oneCell'])
theorem ok26 : TiOk Try.prog 26 ⟨.func, 1, 8, .nilf⟩ := tiOk_mk (.nilFunc) ⟨_, _, _, Try.underlying26⟩ (by kernel_rfl) rfl rfl rfl (by simp [Value.cells, Value.oneCell'])
theorem ok27 : TiOk Try.prog 27 ⟨.func, 1, 8, .nilf⟩ := tiOk_mk (.nilFunc) ⟨_, _, _, Try.underlying27⟩ (by kernel_rfl) rfl rfl rfl (by simp [Value.cells, Value.oneCell'])
theorem ok28 : TiOk Try.prog 28 ⟨.func, 1, 8, .nilf⟩ := tiOk_mk (.nilFunc) ⟨_, _, _, Try.underlying28⟩ (by kernel_rfl) rfl rfl rfl (by simp [Value.cells, Value.oneCell'])
theorem ok29 : TiOk Try.prog 29 ⟨.func, 1, 8, .nilf⟩ := tiOk_mk (.nilFunc) ⟨_, _, _, Try.underlying29⟩ (by kernel_rfl) rfl rfl rfl (by simp [Value.cells, Value.oneCell'])
theorem ok30 : TiOk Try.prog 30 ⟨.arr 4 5, 4, 4, .agg [.int .u8 0, .int .u8 0, .int .u8 0, .int .u8 0]⟩ := tiOk_mk (.agg #[.int .u8 0, .int .u8 0, .int .u8 0, .int .u8 0]) Try.underlying30 (by kernel_rfl) rfl rfl rfl (by simp [Value.cells, Value.oneCell'])
theorem ok31 : TiOk Try.prog 31 ⟨.func, 1, 8, .nilf⟩ := tiOk_mk (.nilFunc) ⟨_, _, _, Try.underlying31⟩ (by kernel_rfl) rfl rfl rfl (by simp [Value.cells, Value.oneCell'])
theorem ok32 : TiOk Try.prog 32 ⟨.func, 1, 8, .nilf⟩ := tiOk_mk (.nilFunc) ⟨_, _, _, Try.underlying32⟩ (by kernel_rfl) rfl rfl rfl (by simp [Value.cells, Value.oneCell'])
theorem ok33 : TiOk Try.prog 33 ⟨.int .u64, 1, 8, .int .u64 0⟩ := tiOk_mk (.int .u64 0) Try.underlying33 (by kernel_rfl) rfl rfl rfl (by simp [Value.cells, Value.oneCell'])
theorem ok34 : TiOk Try.prog 34 ⟨.func, 1, 8, .nilf⟩ := tiOk_mk (.nilFunc) ⟨_, _, _, Try.underlying34⟩ (by kernel_rfl) rfl rfl rfl (by simp [Value.cells, Value.oneCell'])
theorem ok35 : TiOk Try.prog 35 ⟨.func, 1, 8, .nilf⟩ := tiOk_mk (.nilFunc) ⟨_, _, _, Try.underlying35⟩ (by kernel_rfl) rfl rfl rfl (by simp [Value.cells, Value.oneCell'])
theorem ok36 : TiOk Try.prog 36 ⟨.struct [(0, 17), (1, 17), (2, 17), (3, 9)], 4, 40, .agg [.nilp, .nilp, .nilp, .str ⟨#[]⟩]⟩ := tiOk_mk (.agg #[.pointer none, .pointer none, .pointer none, .string ⟨#[]⟩]) ⟨_, Try.underlying36, rfl⟩ (by kernel_rfl) rfl rfl rfl (by simp [Value.cells, Value.oneCell'])
theorem ok37 : TiOk Try.prog 37 ⟨.struct [(0, 17), (1, 17), (2, 17), (3, 9)], 4, 40, .agg [.nilp, .nilp, .nilp, .str ⟨#[]⟩]⟩ := tiOk_mk (.agg #[.pointer none, .pointer none, .pointer none, .string ⟨#[]⟩]) ⟨_, Try.underlying37, rfl⟩ (by kernel_rfl) rfl rfl rfl (by simp [Value.cells, Value.oneCell'])
theorem ok41 : TiOk Try.prog 41 ⟨.func, 1, 8, .nilf⟩ := tiOk_mk (.nilFunc) ⟨_, _, _, Try.underlying41⟩ (by kernel_rfl) rfl rfl rfl (by simp [Value.cells, Value.oneCell'])
theorem ok42 : TiOk Try.prog 42 ⟨.int .u8, 1, 1, .int .u8 0⟩ := tiOk_mk (.int .u8 0) Try.underlying42 (by kernel_rfl) rfl rfl rfl (by simp [Value.cells, Value.oneCell'])
theorem ok43 : TiOk Try.prog 43 ⟨.int .u8, 1, 1, .int .u8 0⟩ := tiOk_mk (.int .u8 0) Try.underlying43 (by kernel_rfl) rfl rfl rfl (by simp [Value.cells, Value.oneCell'])
theorem ok44 : TiOk Try.prog 44 ⟨.func, 1, 8, .nilf⟩ := tiOk_mk (.nilFunc) ⟨_, _, _, Try.underlying44⟩ (by kernel_rfl) rfl rfl rfl (by simp [Value.cells, Value.oneCell'])
theorem ok45 : TiOk Try.prog 45 ⟨.ptr 5, 1, 8, .nilp⟩ := tiOk_mk (.pointer none) Try.underlying45 (by kernel_rfl) rfl rfl rfl (by simp [Value.cells, Value.oneCell'])
theorem ok46 : TiOk Try.prog 46 ⟨.int .i32, 1, 4, .int .i32 0⟩ := tiOk_mk (.int .i32 0) Try.underlying46 (by kernel_rfl) rfl rfl rfl (by simp [Value.cells, Value.oneCell'])
theorem ok47 : TiOk Try.prog 47 ⟨.int .i32, 1, 4, .int .i32 0⟩ := tiOk_mk (.int .i32 0) Try.underlying47 (by kernel_rfl) rfl rfl rfl (by simp [Value.cells, Value.oneCell'])
theorem ok48 : TiOk Try.prog 48 ⟨.struct [(0, 12), (1, 12), (2, 24), (3, 42), (4, 5), (5, 5), (6, 43), (7, 44), (8, 45), (9, 46), (10, 47)], 11, 48, .agg [.int .u64 0, .int .u64 0, .int .u32 0, .int .u8 0, .int .u8 0, .int .u8 0, .int .u8 0, .nilf, .nilp, .int .i32 0, .int .i32 0]⟩ := tiOk_mk (.agg #[.int .u64 0, .int .u64 0, .int .u32 0, .int .u8 0, .int .u8 0, .int .u8 0, .int .u8 0, .nilFunc, .pointer none, .int .i32 0, .int .i32 0]) ⟨_, Try.underlying48, rfl⟩ (by kernel_rfl) rfl rfl rfl (by simp [Value.cells, Value.oneCell'])
theorem ok49 : TiOk Try.prog 49 ⟨.struct [(0, 12), (1, 12), (2, 24), (3, 42), (4, 5), (5, 5), (6, 43), (7, 44), (8, 45), (9, 46), (10, 47)], 11, 48, .agg [.int .u64 0, .int .u64 0, .int .u32 0, .int .u8 0, .int .u8 0, .int .u8 0, .int .u8 0, .nilf, .nilp, .int .i32 0, .int .i32 0]⟩ := tiOk_mk (.agg #[.int .u64 0, .int .u64 0, .int .u32 0, .int .u8 0, .int .u8 0, .int .u8 0, .int .u8 0, .nilFunc, .pointer none, .int .i32 0, .int .i32 0]) ⟨_, Try.underlying49, rfl⟩ (by kernel_rfl) rfl rfl rfl (by simp [Value.cells, Value.oneCell'])
theorem tk : TyOk Try.prog ty := by
  intro t i h
  unfold ty at h
  split at h
  · cases h; exact ok1
  · cases h; exact ok2
  · cases h; exact ok3
  · cases h; exact ok4
  · cases h; exact ok5
  · cases h; exact ok6
  · cases h; exact ok7
  · cases h; exact ok8
  · cases h; exact ok9
  · cases h; exact ok10
  · cases h; exact ok11
  · cases h; exact ok12
  · cases h; exact ok13
  · cases h; exact ok14
  · cases h; exact ok15
  · cases h; exact ok16
  · cases h; exact ok17
  · cases h; exact ok18
  · cases h; exact ok19
  · cases h; exact ok20
  · cases h; exact ok21
  · cases h; exact ok22
  · cases h; exact ok23
  · cases h; exact ok24
  · cases h; exact ok25
  · cases h; exact ok26
  · cases h; exact ok27
  · cases h; exact ok28
  · cases h; exact ok29
  · cases h; exact ok30
  · cases h; exact ok31
  · cases h; exact ok32
  · cases h; exact ok33
  · cases h; exact ok34
  · cases h; exact ok35
  · cases h; exact ok36
  · cases h; exact ok37
  · cases h; exact ok41
  · cases h; exact ok42
  · cases h; exact ok43
  · cases h; exact ok44
  · cases h; exact ok45
  · cases h; exact ok46
  · cases h; exact ok47
  · cases h; exact ok48
  · cases h; exact ok49
  · cases h
theorem mixed : Try.prog.follows .mixedOrders = true := by kernel_rfl
end Go.Proofs.Ytiembjojiaobbaa
namespace Go.Proofs.Ytiembjojiaobbaa
open Go Go.Va
set_option linter.unusedSimpArgs false
set_option linter.unusedVariables false
structure runtime_boundsError where
  x : Int
  y : Int
  signed : Bool
  code : BitVec 8
  deriving DecidableEq
def c_runtime_boundsError (x : runtime_boundsError) : List AV := [eI x.x, eI x.y, eB x.signed, (@eU .u8 8) x.code]
def e_runtime_boundsError (x : runtime_boundsError) : AV := .agg (c_runtime_boundsError x)
def z_runtime_boundsError : runtime_boundsError := ⟨(0 : Int), (0 : Int), false, 0#8⟩
theorem c_runtime_boundsError_cut (nl nt : Nat → Option Nat) (x : runtime_boundsError) : cutL nl nt (c_runtime_boundsError x) = c_runtime_boundsError x := by simp only [cutL, e_runtime_boundsError, c_runtime_boundsError, cutAV, (enc_i64 td2 sz2).cut nl nt, (enc_i64 td3 sz3).cut nl nt, (enc_b td4 sz4).cut nl nt, (enc_u td6 sz6).cut nl nt]
theorem pc_runtime_boundsError (x : runtime_boundsError) : purL (c_runtime_boundsError x) = true := by simp only [c_runtime_boundsError, purL, purL_append, Bool.and_self, Bool.and_true, (show purA (eI x.x) = true from (fun _ => rfl) _), (show purA (eI x.y) = true from (fun _ => rfl) _), (show purA (eB x.signed) = true from (fun _ => rfl) _), (show purA ((@eU .u8 8) x.code) = true from (fun _ => rfl) _)]
theorem pur_runtime_boundsError (x : runtime_boundsError) : purA (e_runtime_boundsError x) = true := pc_runtime_boundsError x
theorem enc7 : Enc ty 7 4 e_runtime_boundsError := ⟨sz7, by decide, fun _ => rfl, fun _ _ => rfl, fun h => (by cases h), fun _ => rfl, fun nl nt x => by simp only [e_runtime_boundsError, cutAV, c_runtime_boundsError_cut]⟩
theorem enc8 : Enc ty 8 4 e_runtime_boundsError := ⟨sz8, by decide, fun _ => rfl, fun _ _ => rfl, fun h => (by cases h), fun _ => rfl, fun nl nt x => by simp only [e_runtime_boundsError, cutAV, c_runtime_boundsError_cut]⟩
structure runtime_errorAddressString where
  msg : List (BitVec 8)
  addr : BitVec 64
  deriving DecidableEq
def c_runtime_errorAddressString (x : runtime_errorAddressString) : List AV := [eS x.msg, (@eU .u64 64) x.addr]
def e_runtime_errorAddressString (x : runtime_errorAddressString) : AV := .agg (c_runtime_errorAddressString x)
def z_runtime_errorAddressString : runtime_errorAddressString := ⟨([] : List (BitVec 8)), 0#64⟩
theorem c_runtime_errorAddressString_cut (nl nt : Nat → Option Nat) (x : runtime_errorAddressString) : cutL nl nt (c_runtime_errorAddressString x) = c_runtime_errorAddressString x := by simp only [cutL, e_runtime_errorAddressString, c_runtime_errorAddressString, cutAV, (enc_s td9 sz9).cut nl nt, (enc_u td12 sz12).cut nl nt]
theorem pc_runtime_errorAddressString (x : runtime_errorAddressString) : purL (c_runtime_errorAddressString x) = true := by simp only [c_runtime_errorAddressString, purL, purL_append, Bool.and_self, Bool.and_true, (show purA (eS x.msg) = true from (fun _ => rfl) _), (show purA ((@eU .u64 64) x.addr) = true from (fun _ => rfl) _)]
theorem pur_runtime_errorAddressString (x : runtime_errorAddressString) : purA (e_runtime_errorAddressString x) = true := pc_runtime_errorAddressString x
theorem enc13 : Enc ty 13 2 e_runtime_errorAddressString := ⟨sz13, by decide, fun _ => rfl, fun _ _ => rfl, fun h => (by cases h), fun _ => rfl, fun nl nt x => by simp only [e_runtime_errorAddressString, cutAV, c_runtime_errorAddressString_cut]⟩
theorem enc14 : Enc ty 14 2 e_runtime_errorAddressString := ⟨sz14, by decide, fun _ => rfl, fun _ _ => rfl, fun h => (by cases h), fun _ => rfl, fun nl nt x => by simp only [e_runtime_errorAddressString, cutAV, c_runtime_errorAddressString_cut]⟩
end Go.Proofs.Ytiembjojiaobbaa
namespace Go.Proofs.Ytiembjojiaobbaa
open Go Go.Va
set_option linter.unusedVariables false
set_option linter.unusedSimpArgs false
set_option maxRecDepth 20000
noncomputable def checksum_column_b0  (c3 : BitVec 32) (c4 : Int) : Option (((BitVec 32) × Int) ⊕ ((BitVec 32))) :=
  lt (decide (c4 < (8 : Int))) fun v15 =>
  if v15 = true then
    lt (c3 &&& 1#32) fun v18 =>
    lt (v18 == 1#32) fun v20 =>
    if v20 = true then
      lt (c3 >>> 1) fun v23 =>
      lt (v23 ^^^ 3988292384#32) fun v25 =>
      lt (w64 (c4 + (1 : Int))) fun v27 =>
      some (.inl (v25, v27))
    else
      lt (c3 >>> 1) fun v29 =>
      lt (w64 (c4 + (1 : Int))) fun v31 =>
      some (.inl (v29, v31))
  else
    some (.inr c3)
noncomputable def checksum_column_l0  (s : (BitVec 32) × Int) : Option ((BitVec 32)) := loopO (fun s => checksum_column_b0 s.1 s.2) s
noncomputable def checksum_column (x0 : BitVec 8) : Option ((BitVec 32)) :=
  lt (BitVec.setWidth 32 x0) fun v2 =>
  (checksum_column_l0 (v2, (0 : Int))).bind fun s12 =>
    some s12
end Go.Proofs.Ytiembjojiaobbaa
namespace Go.Proofs.Ytiembjojiaobbaa
open Go Go.Va
set_option linter.unusedVariables false
set_option linter.unusedSimpArgs false
set_option maxRecDepth 20000
noncomputable def checksum_More_b0 (x1 : List (BitVec 8)) (v4 : Int) (c5 : BitVec 32) (c6 : Int) : Option (((BitVec 32) × Int) ⊕ ((BitVec 32))) :=
  lt (decide (c6 < v4)) fun v17 =>
  if v17 = true then
    (ix x1 c6).bind fun v20 =>
    lt (c5 >>> 8) fun v22 =>
    lt (BitVec.setWidth 8 c5) fun v24 =>
    lt (v24 ^^^ v20) fun v26 =>
    (checksum_column v26).bind fun v28 =>
    lt (v22 ^^^ v28) fun v30 =>
    lt (w64 (c6 + (1 : Int))) fun v32 =>
    some (.inl (v30, v32))
  else
    some (.inr c5)
noncomputable def checksum_More_l0 (x1 : List (BitVec 8)) (v4 : Int) (s : (BitVec 32) × Int) : Option ((BitVec 32)) := loopO (fun s => checksum_More_b0 x1 v4 s.1 s.2) s
noncomputable def checksum_More (x0 : BitVec 32) (x1 : List (BitVec 8)) : Option ((BitVec 32)) :=
  lt (~~~ x0) fun v2 =>
  lt (((x1).length : Int)) fun v4 =>
  (checksum_More_l0 x1 v4 (v2, (0 : Int))).bind fun s14 =>
    lt (~~~ s14) fun v35 =>
    some v35
end Go.Proofs.Ytiembjojiaobbaa
namespace Go.Proofs.Ytiembjojiaobbaa
open Go Go.Va
set_option linter.unusedVariables false
set_option linter.unusedSimpArgs false
set_option maxRecDepth 20000
noncomputable def checksum_Sum (x0 : List (BitVec 8)) : Option ((BitVec 32)) :=
  (checksum_More 0#32 x0).bind fun v2 =>
  some v2
end Go.Proofs.Ytiembjojiaobbaa
namespace Go.Proofs.Ytiembjojiaobbaa
open Go Go.Va
set_option linter.unusedVariables false
set_option linter.unusedSimpArgs false
set_option maxRecDepth 20000
noncomputable def checksum_Four (x0 : BitVec 32) : Option ((List (BitVec 8))) :=
  lt (BitVec.setWidth 8 x0) fun v4 =>
  lt (x0 >>> 8) fun v6 =>
  lt (BitVec.setWidth 8 v6) fun v8 =>
  lt (x0 >>> 16) fun v10 =>
  lt (BitVec.setWidth 8 v10) fun v12 =>
  lt (x0 >>> 24) fun v14 =>
  lt (BitVec.setWidth 8 v14) fun v16 =>
  lt (([v4, v8, v12, v16] : List (BitVec 8))) fun v18 =>
  (stW 4 (List.replicate 4 0#8) v18).bind fun c20 =>
  (whole 4 c20).bind fun w22 =>
  some w22
end Go.Proofs.Ytiembjojiaobbaa
namespace Go.Proofs.Ytiembjojiaobbaa
open Go Go.Va
set_option linter.unusedVariables false
set_option linter.unusedSimpArgs false
set_option maxRecDepth 20000
noncomputable def checksum_Seal (x0 : List (BitVec 8)) : Option ((List (BitVec 8))) :=
  (checksum_Sum x0).bind fun v2 =>
  (checksum_Four v2).bind fun v4 =>
  (stW 4 (List.replicate 4 0#8) v4).bind fun c8 =>
  (app 1 ([] : List (BitVec 8)) x0).bind fun v11 =>
  ((whole 4 c8).bind fun w => app 1 v11 w).bind fun v15 =>
  some v15
end Go.Proofs.Ytiembjojiaobbaa
namespace Go.Proofs.Ytiembjojiaobbaa
open Go Go.Va
set_option linter.unusedVariables false
set_option linter.unusedSimpArgs false
set_option maxRecDepth 20000
noncomputable def checksum_Fits (x0 : List (BitVec 8)) : Option (Bool) :=
  lt (((x0).length : Int)) fun v2 =>
  lt (w64 (v2 - (4 : Int))) fun v4 =>
  lt (decide (v4 < (0 : Int))) fun v6 =>
  if v6 = true then
    some false
  else
    (cutTo x0 v4).bind fun v9 =>
    (checksum_Sum v9).bind fun v11 =>
    (checksum_Four v11).bind fun v13 =>
    (cutFrom x0 v4).bind fun v15 =>
    (cutTo v15 4).bind fun v17 =>
    (whole 4 v17).bind fun v19 =>
    (eqA 4 v13 v19).bind fun v21 =>
    some v21
end Go.Proofs.Ytiembjojiaobbaa
namespace Go.Proofs.Ytiembjojiaobbaa
open Go Go.Va
set_option linter.unusedVariables false
set_option linter.unusedSimpArgs false
set_option maxRecDepth 20000
noncomputable def butterylaw03_works : Option (Bool) :=
  (checksum_Seal ([49#8, 50#8, 51#8, 52#8, 53#8, 54#8, 55#8, 56#8, 57#8] : List (BitVec 8))).bind fun v2 =>
  (checksum_Sum ([49#8, 50#8, 51#8, 52#8, 53#8, 54#8, 55#8, 56#8, 57#8] : List (BitVec 8))).bind fun v4 =>
  lt (v4 == 3421780262#32) fun v6 =>
  if v6 = true then
    lt (((v2).length : Int)) fun v9 =>
    lt (v9 == (13 : Int)) fun v11 =>
    if v11 = true then
      (checksum_Fits v2).bind fun v14 =>
      if v14 = true then
        (checksum_Fits ([1#8, 2#8, 3#8] : List (BitVec 8))).bind fun v17 =>
        lt (!v17) fun v19 =>
        if v19 = true then
          (checksum_Four 258#32).bind fun v22 =>
          lt (([2#8, 1#8, 0#8, 0#8] : List (BitVec 8))) fun v24 =>
          (eqA 4 v22 v24).bind fun v26 =>
          some v26
        else
          some false
      else
        some false
    else
      some false
  else
    some false
end Go.Proofs.Ytiembjojiaobbaa
namespace Go.Proofs.Ytiembjojiaobbaa
open Go Go.Va
set_option linter.unusedVariables false
set_option linter.unusedSimpArgs false
set_option maxRecDepth 20000
noncomputable def checksum_SealV (x0 : List (BitVec 8)) : Option ((List (BitVec 8))) :=
  (checksum_Sum x0).bind fun v2 =>
  (checksum_Four v2).bind fun v4 =>
  (stW 4 (List.replicate 4 0#8) v4).bind fun c8 =>
  (app 1 ([] : List (BitVec 8)) x0).bind fun v11 =>
  ((whole 4 c8).bind fun w => app 1 v11 w).bind fun v16 =>
  some v16
end Go.Proofs.Ytiembjojiaobbaa
namespace Go.Proofs.Ytiembjojiaobbaa
open Go Go.Va
set_option linter.unusedVariables false
set_option linter.unusedSimpArgs false
set_option maxRecDepth 20000
noncomputable def butterylaw03_ChecksumTells_b0 (x2 : BitVec 32) (v39 : Int) (c40 : List (BitVec 8)) (c41 : Int) : Option (((List (BitVec 8)) × Int) ⊕ ((List (BitVec 8)))) :=
  lt (decide (c41 < (32 : Int))) fun v52 =>
  if v52 = true then
    ((sc c41).map fun m => x2 >>> m).bind fun v55 =>
    lt (v55 &&& 1#32) fun v57 =>
    lt (v57 == 1#32) fun v59 =>
    if v59 = true then
      lt (w64 (v39 + c41)) fun v62 =>
      lt (quo64 v62 (8 : Int)) fun v64 =>
      lt (w64 (v39 + c41)) fun v66 =>
      lt (quo64 v66 (8 : Int)) fun v68 =>
      (chk (c40).length v68).bind fun v70 =>
      (ixA (c40).length c40 v68).bind fun v72 =>
      lt (w64 (v39 + c41)) fun v74 =>
      lt (Int.tmod v74 (8 : Int)) fun v76 =>
      ((sc v76).map fun m => 1#8 <<< m).bind fun v78 =>
      lt (v72 ^^^ v78) fun v80 =>
      (chk (c40).length v64).bind fun v82 =>
      (updA (c40).length c40 v64 (fun _ => v80)).bind fun c84 =>
      lt (w64 (c41 + (1 : Int))) fun v87 =>
      some (.inl (c84, v87))
    else
      lt (w64 (c41 + (1 : Int))) fun v89 =>
      some (.inl (c40, v89))
  else
    some (.inr c40)
noncomputable def butterylaw03_ChecksumTells_l0 (x2 : BitVec 32) (v39 : Int) (s : (List (BitVec 8)) × Int) : Option ((List (BitVec 8))) := loopO (fun s => butterylaw03_ChecksumTells_b0 x2 v39 s.1 s.2) s
noncomputable def butterylaw03_ChecksumTells (x0 : List (BitVec 8)) (x1 : BitVec 16) (x2 : BitVec 32) : Option (Bool) :=
  (
    lt (((x0).length : Int)) fun v6 =>
    lt (decide (v6 > (1000 : Int))) fun v8 =>
    if v8 = true then
      some true
    else
      lt (x2 == 0#32) fun v11 =>
      some v11
   : Option (Bool)).bind fun s1 =>
    if s1 = true then
      (butterylaw03_works).bind fun v15 =>
      some v15
    else
      (checksum_SealV x0).bind fun v17 =>
      lt ((((v17).length : Nat) : Int)) fun v22 =>
      lt (((x0).length : Int)) fun v24 =>
      lt (w64 (v24 + (4 : Int))) fun v26 =>
      lt (v22 != v26) fun v28 =>
      if v28 = true then
        some false
      else
        lt ((BitVec.toNat x1 : Int)) fun v31 =>
        lt ((((v17).length : Nat) : Int)) fun v33 =>
        lt (w64 ((8 : Int) * v33)) fun v35 =>
        lt (w64 (v35 - (31 : Int))) fun v37 =>
        ((dv v37).map fun m => Int.tmod v31 m).bind fun v39 =>
        (butterylaw03_ChecksumTells_l0 x2 v39 (v17, (0 : Int))).bind fun s49 =>
          (checksum_Fits s49).bind fun v92 =>
          lt (!v92) fun v94 =>
          if v94 = true then
            (butterylaw03_works).bind fun v97 =>
            some v97
          else
            some false
end Go.Proofs.Ytiembjojiaobbaa
namespace Go.Proofs.Ytiembjojiaobbaa
open Go Go.Va
set_option linter.unusedVariables false
set_option linter.unusedSimpArgs false
set_option maxRecDepth 20000
theorem checksum_column_ok {x0 : BitVec 8} {r : (BitVec 32)} (H : checksum_column x0 = some r) (σ : St)  : ACall Try.prog 10 [((@eU .u8 8) x0)] σ (fun a τ => a = (@eU .u32 32) r ∧ τ = σ) := by
  unfold checksum_column at H
  refine ACall.pure (acall_start tk Try.func10 (by decide) rfl (Nat.le_of_ble_eq_true rfl) ?_)
  have hH := Holds.init σ
  refine awp_seq ?_
  refine awp_region rfl ?_
  refine wpo_mv (a := ((@eU .u32 32) 0#32)) rfl rfl rfl (o_as tk rfl (Wk.refl _)) ?_
  refine wpo_nil ?_
  refine awp_seq ?_
  refine awp_region rfl ?_
  refine wpo_mv (a := ((@eU .u8 8) x0)) rfl rfl rfl (o_mv tk rfl (Wk.refl _)) ?_
  refine wpo_lt H (@eU .u32 32) rfl rfl rfl (o_cv_uu tk td5 td24 rfl rfl) fun v2 H1 => ?_
  refine wpo_mv (a := ((@eU .u32 32) v2)) rfl rfl rfl (o_as tk rfl (Wk.refl _)) ?_
  refine wpo_nil ?_
  refine awp_seq ?_
  refine awp_seq ?_
  refine awp_region rfl ?_
  refine wpo_mv (a := (eI (0 : Int))) rfl rfl rfl (o_mv tk rfl (Wk.refl _)) ?_
  refine wpo_nil ?_
  refine awp_block ?_
  obtain ⟨s12, hs6, hj7⟩ := Option.bind_eq_some_iff.1 H1
  refine awp_cutx 0 (fun fr τ => WkF fr (fm [(3, ((@eU .u32 32) s12))]) ∧ Holds σ [] [] τ) ?_ ?_
  · rintro fr τ ⟨hfr, hH⟩
    have H32 := hj7
    refine AWP.fm [(3, ((@eU .u32 32) s12))] hfr ?_
    refine awp_seq ?_
    refine awp_region rfl ?_
    refine wpo_mv (a := ((@eU .u32 32) s12)) rfl rfl rfl (o_mv tk rfl (Wk.refl _)) ?_
    refine wpo_mv (a := ((@eU .u32 32) s12)) rfl rfl rfl (o_as tk rfl (Wk.refl _)) ?_
    refine wpo_nil ?_
    refine awp_ret ?_
    obtain rfl := Option.some.inj H32
    exact ⟨_, ((@eU .u32 32) s12), rfl, (.of_eq rfl), .of_eq ((enc_u td24 sz24).cut _ _ _), hH.noT⟩
  · refine awp_loopO (body := fun s => checksum_column_b0 s.1 s.2) hs6 (fun (s : (BitVec 32) × Int) fr τ => WkF fr (fm [(3, ((@eU .u32 32) s.1)), (6, (eI s.2))]) ∧ Holds σ [] [] τ) ⟨(wkf_cons (.of_eq rfl) (wkf_cons (.of_eq rfl) (wkf_nil _))), hH⟩ ?_
    rintro ⟨c3, c4⟩ fr τ y8 ⟨hfr, hH⟩ hb10 hy11
    have H13 : checksum_column_b0 c3 c4 = some y8 := hb10
    unfold checksum_column_b0 at H13
    refine AWP.fm [(3, ((@eU .u32 32) c3)), (6, (eI c4))] hfr ?_
    have hH : Holds σ [] [] τ := hH
    refine awp_seq ?_
    refine awp_region rfl ?_
    refine wpo_lt H13 eB rfl rfl rfl (o_ar tk rfl rfl rfl) fun v15 H14 => ?_
    refine wpo_nil ?_
    refine awp_seq ?_
    refine awp_if H14 rfl (fun H16 => ?_) (fun H16 => ?_)
    · refine awp_skip ?_
      refine awp_seq ?_
      refine awp_block ?_
      refine awp_seq ?_
      refine awp_region rfl ?_
      refine wpo_mv (a := ((@eU .u32 32) c3)) rfl rfl rfl (o_mv tk rfl (Wk.refl _)) ?_
      refine wpo_lt H16 (@eU .u32 32) rfl rfl rfl (o_and_u tk rfl rfl rfl) fun v18 H17 => ?_
      refine wpo_lt H17 eB rfl rfl rfl (o_eql_u tk rfl rfl) fun v20 H19 => ?_
      refine wpo_nil ?_
      refine awp_if H19 rfl (fun H21 => ?_) (fun H21 => ?_)
      · refine awp_region rfl ?_
        refine wpo_mv (a := ((@eU .u32 32) c3)) rfl rfl rfl (o_mv tk rfl (Wk.refl _)) ?_
        refine wpo_lt H21 (@eU .u32 32) rfl rfl rfl (o_shr_u tk rfl (y := (1 : Int)) rfl rfl rfl) fun v23 H22 => ?_
        refine wpo_lt H22 (@eU .u32 32) rfl rfl rfl (o_xor_u tk rfl rfl rfl) fun v25 H24 => ?_
        refine wpo_mv (a := ((@eU .u32 32) v25)) rfl rfl rfl (o_as tk rfl (Wk.refl _)) ?_
        refine wpo_nil ?_
        refine awp_region rfl ?_
        refine wpo_lt H24 eI rfl rfl rfl (o_ar tk rfl rfl rfl) fun v27 H26 => ?_
        refine wpo_mv (a := (eI v27)) rfl rfl rfl (o_mv tk rfl (Wk.refl _)) ?_
        refine wpo_nil ?_
        exact ⟨(v25, v27), inj_inl H26, (wkf_cons (.of_eq rfl) (wkf_cons (.of_eq rfl) (wkf_nil _))), hH⟩
      · refine awp_region rfl ?_
        refine wpo_mv (a := ((@eU .u32 32) c3)) rfl rfl rfl (o_mv tk rfl (Wk.refl _)) ?_
        refine wpo_lt H21 (@eU .u32 32) rfl rfl rfl (o_shr_u tk rfl (y := (1 : Int)) rfl rfl rfl) fun v29 H28 => ?_
        refine wpo_mv (a := ((@eU .u32 32) v29)) rfl rfl rfl (o_as tk rfl (Wk.refl _)) ?_
        refine wpo_nil ?_
        refine awp_region rfl ?_
        refine wpo_lt H28 eI rfl rfl rfl (o_ar tk rfl rfl rfl) fun v31 H30 => ?_
        refine wpo_mv (a := (eI v31)) rfl rfl rfl (o_mv tk rfl (Wk.refl _)) ?_
        refine wpo_nil ?_
        exact ⟨(v29, v31), inj_inl H30, (wkf_cons (.of_eq rfl) (wkf_cons (.of_eq rfl) (wkf_nil _))), hH⟩
    · refine awp_exit ?_
      have hz := hy11 _ (inj_inr H16)
      subst hz
      exact ⟨⟨_, inj_inr H16⟩, (wkf_cons (.of_eq rfl) (wkf_nil _)), hH⟩
end Go.Proofs.Ytiembjojiaobbaa
namespace Go.Proofs.Ytiembjojiaobbaa
open Go Go.Va
set_option linter.unusedVariables false
set_option linter.unusedSimpArgs false
set_option maxRecDepth 20000
theorem checksum_More_ok {x0 : BitVec 32} {x1 : List (BitVec 8)} {r : (BitVec 32)} (H : checksum_More x0 x1 = some r) (σ : St)  : ACall Try.prog 9 [((@eU .u32 32) x0), ((eL 1 (@eU .u8 8)) x1)] σ (fun a τ => a = (@eU .u32 32) r ∧ τ = σ) := by
  unfold checksum_More at H
  refine ACall.pure (acall_start tk Try.func9 (by decide) rfl (Nat.le_of_ble_eq_true rfl) ?_)
  have hH := Holds.init σ
  refine awp_seq ?_
  refine awp_region rfl ?_
  refine wpo_mv (a := ((@eU .u32 32) 0#32)) rfl rfl rfl (o_as tk rfl (Wk.refl _)) ?_
  refine wpo_nil ?_
  refine awp_seq ?_
  refine awp_region rfl ?_
  refine wpo_mv (a := ((@eU .u32 32) x0)) rfl rfl rfl (o_mv tk rfl (Wk.refl _)) ?_
  refine wpo_lt H (@eU .u32 32) rfl rfl rfl (o_not_u tk rfl rfl) fun v2 H1 => ?_
  refine wpo_mv (a := ((@eU .u32 32) v2)) rfl rfl rfl (o_as tk rfl (Wk.refl _)) ?_
  refine wpo_nil ?_
  refine awp_seq ?_
  refine awp_seq ?_
  refine awp_region rfl ?_
  refine wpo_mv (a := ((eL 1 (@eU .u8 8)) x1)) rfl rfl rfl (o_mv tk rfl (Wk.refl _)) ?_
  refine wpo_lt H1 eI rfl rfl rfl (o_len tk td22 rfl) fun v4 H3 => ?_
  refine wpo_mv (a := (eI (0 : Int))) rfl rfl rfl (o_mv tk rfl (Wk.refl _)) ?_
  refine wpo_nil ?_
  refine awp_block ?_
  obtain ⟨s14, hs8, hj9⟩ := Option.bind_eq_some_iff.1 H3
  refine awp_cutx 0 (fun fr τ => WkF fr (fm [(5, ((@eU .u32 32) s14))]) ∧ Holds σ [] [] τ) ?_ ?_
  · rintro fr τ ⟨hfr, hH⟩
    have H33 := hj9
    refine AWP.fm [(5, ((@eU .u32 32) s14))] hfr ?_
    refine awp_seq ?_
    refine awp_region rfl ?_
    refine wpo_mv (a := ((@eU .u32 32) s14)) rfl rfl rfl (o_mv tk rfl (Wk.refl _)) ?_
    refine wpo_lt H33 (@eU .u32 32) rfl rfl rfl (o_not_u tk rfl rfl) fun v35 H34 => ?_
    refine wpo_mv (a := ((@eU .u32 32) v35)) rfl rfl rfl (o_as tk rfl (Wk.refl _)) ?_
    refine wpo_nil ?_
    refine awp_ret ?_
    obtain rfl := Option.some.inj H34
    exact ⟨_, ((@eU .u32 32) v35), rfl, (.of_eq rfl), .of_eq ((enc_u td24 sz24).cut _ _ _), hH.noT⟩
  · refine awp_loopO (body := fun s => checksum_More_b0 x1 v4 s.1 s.2) hs8 (fun (s : (BitVec 32) × Int) fr τ => WkF fr (fm [(5, ((@eU .u32 32) s.1)), (10, ((eL 1 (@eU .u8 8)) x1)), (11, (eI v4)), (12, (eI s.2))]) ∧ Holds σ [] [] τ) ⟨(wkf_cons (.of_eq rfl) (wkf_cons (.of_eq rfl) (wkf_cons (.of_eq rfl) (wkf_cons (.of_eq rfl) (wkf_nil _))))), hH⟩ ?_
    rintro ⟨c5, c6⟩ fr τ y10 ⟨hfr, hH⟩ hb12 hy13
    have H15 : checksum_More_b0 x1 v4 c5 c6 = some y10 := hb12
    unfold checksum_More_b0 at H15
    refine AWP.fm [(5, ((@eU .u32 32) c5)), (10, ((eL 1 (@eU .u8 8)) x1)), (11, (eI v4)), (12, (eI c6))] hfr ?_
    have hH : Holds σ [] [] τ := hH
    refine awp_seq ?_
    refine awp_region rfl ?_
    refine wpo_lt H15 eB rfl rfl rfl (o_ar tk rfl rfl rfl) fun v17 H16 => ?_
    refine wpo_nil ?_
    refine awp_seq ?_
    refine awp_if H16 rfl (fun H18 => ?_) (fun H18 => ?_)
    · refine awp_skip ?_
      refine awp_seq ?_
      refine awp_block ?_
      refine awp_seq ?_
      refine awp_region rfl ?_
      refine wpo_bd H18 (fun y => .fptr ((@eU .u8 8) y).cells 0) rfl rfl rfl (fun v20 hv => o_ixa tk hv td22 (enc_u td5 sz5) rfl rfl) fun v20 hv20 H19 => ?_
      refine wpo_mv (a := ((@eU .u8 8) v20)) rfl rfl rfl (o_ld_e tk (enc_u td5 sz5) rfl rfl) ?_
      refine wpo_mv (a := ((@eU .u8 8) v20)) rfl rfl rfl (o_as tk rfl (Wk.refl _)) ?_
      refine wpo_nil ?_
      refine awp_region rfl ?_
      refine wpo_mv (a := ((@eU .u32 32) c5)) rfl rfl rfl (o_mv tk rfl (Wk.refl _)) ?_
      refine wpo_lt H19 (@eU .u32 32) rfl rfl rfl (o_shr_u tk rfl (y := (8 : Int)) rfl rfl rfl) fun v22 H21 => ?_
      refine wpo_mv (a := ((@eU .u32 32) c5)) rfl rfl rfl (o_mv tk rfl (Wk.refl _)) ?_
      refine wpo_lt H21 (@eU .u8 8) rfl rfl rfl (o_cv_uu tk td24 td5 rfl rfl) fun v24 H23 => ?_
      refine wpo_mv (a := ((@eU .u8 8) v20)) rfl rfl rfl (o_mv tk rfl (Wk.refl _)) ?_
      refine wpo_lt H23 (@eU .u8 8) rfl rfl rfl (o_xor_u tk rfl rfl rfl) fun v26 H25 => ?_
      refine wpo_bd H25 (@eU .u32 32) rfl rfl rfl (fun v28 hv => OpP.of_call rfl rfl (.cons (.of_eq rfl) .nil) (checksum_column_ok hv)) fun v28 hv28 H27 => ?_
      refine wpo_lt H27 (@eU .u32 32) rfl rfl rfl (o_xor_u tk rfl rfl rfl) fun v30 H29 => ?_
      refine wpo_mv (a := ((@eU .u32 32) v30)) rfl rfl rfl (o_as tk rfl (Wk.refl _)) ?_
      refine wpo_nil ?_
      refine awp_region rfl ?_
      refine wpo_lt H29 eI rfl rfl rfl (o_ar tk rfl rfl rfl) fun v32 H31 => ?_
      refine wpo_mv (a := (eI v32)) rfl rfl rfl (o_mv tk rfl (Wk.refl _)) ?_
      refine wpo_nil ?_
      exact ⟨(v30, v32), inj_inl H31, (wkf_cons (.of_eq rfl) (wkf_cons (.of_eq rfl) (wkf_cons (.of_eq rfl) (wkf_cons (.of_eq rfl) (wkf_nil _))))), hH⟩
    · refine awp_exit ?_
      have hz := hy13 _ (inj_inr H18)
      subst hz
      exact ⟨⟨_, inj_inr H18⟩, (wkf_cons (.of_eq rfl) (wkf_nil _)), hH⟩
end Go.Proofs.Ytiembjojiaobbaa
namespace Go.Proofs.Ytiembjojiaobbaa
open Go Go.Va
set_option linter.unusedVariables false
set_option linter.unusedSimpArgs false
set_option maxRecDepth 20000
theorem checksum_Sum_ok {x0 : List (BitVec 8)} {r : (BitVec 32)} (H : checksum_Sum x0 = some r) (σ : St)  : ACall Try.prog 7 [((eL 1 (@eU .u8 8)) x0)] σ (fun a τ => a = (@eU .u32 32) r ∧ τ = σ) := by
  unfold checksum_Sum at H
  refine ACall.pure (acall_start tk Try.func7 (by decide) rfl (Nat.le_of_ble_eq_true rfl) ?_)
  have hH := Holds.init σ
  refine awp_seq ?_
  refine awp_region rfl ?_
  refine wpo_mv (a := ((@eU .u32 32) 0#32)) rfl rfl rfl (o_as tk rfl (Wk.refl _)) ?_
  refine wpo_nil ?_
  refine awp_seq ?_
  refine awp_region rfl ?_
  refine wpo_mv (a := ((eL 1 (@eU .u8 8)) x0)) rfl rfl rfl (o_mv tk rfl (Wk.refl _)) ?_
  refine wpo_bd H (@eU .u32 32) rfl rfl rfl (fun v2 hv => OpP.of_call rfl rfl (.cons (.of_eq rfl) (.cons (.of_eq rfl) .nil)) (checksum_More_ok hv)) fun v2 hv2 H1 => ?_
  refine wpo_mv (a := ((@eU .u32 32) v2)) rfl rfl rfl (o_as tk rfl (Wk.refl _)) ?_
  refine wpo_nil ?_
  refine awp_ret ?_
  obtain rfl := Option.some.inj H1
  exact ⟨_, ((@eU .u32 32) v2), rfl, (.of_eq rfl), .of_eq ((enc_u td24 sz24).cut _ _ _), hH.noT⟩
end Go.Proofs.Ytiembjojiaobbaa
namespace Go.Proofs.Ytiembjojiaobbaa
open Go Go.Va
set_option linter.unusedVariables false
set_option linter.unusedSimpArgs false
set_option maxRecDepth 20000
theorem checksum_Four_ok {x0 : BitVec 32} {r : (List (BitVec 8))} (H : checksum_Four x0 = some r) (σ : St)  : ACall Try.prog 8 [((@eU .u32 32) x0)] σ (fun a τ => a = (eA (@eU .u8 8)) r ∧ τ = σ) := by
  unfold checksum_Four at H
  refine ACall.pure (acall_start tk Try.func8 (by decide) rfl (Nat.le_of_ble_eq_true rfl) ?_)
  have hH := Holds.init σ
  refine awp_seq ?_
  refine awp_region rfl ?_
  refine wpo_a (av := fun id => .ref id 0) rfl rfl rfl (h_alloc tk hH ty30 (cL (@eU .u8 8) (List.replicate 4 0#8)) rfl) fun id1 τ ⟨hH, n2⟩ => ?_
  refine wpo_nil ?_
  refine awp_seq ?_
  refine awp_region rfl ?_
  refine wpo_mv (a := ((@eU .u32 32) x0)) rfl rfl rfl (o_mv tk rfl (Wk.refl _)) ?_
  refine wpo_lt H (@eU .u8 8) rfl rfl rfl (o_cv_uu tk td24 td5 rfl rfl) fun v4 H3 => ?_
  refine wpo_mv (a := ((@eU .u32 32) x0)) rfl rfl rfl (o_mv tk rfl (Wk.refl _)) ?_
  refine wpo_lt H3 (@eU .u32 32) rfl rfl rfl (o_shr_u tk rfl (y := (8 : Int)) rfl rfl rfl) fun v6 H5 => ?_
  refine wpo_lt H5 (@eU .u8 8) rfl rfl rfl (o_cv_uu tk td24 td5 rfl rfl) fun v8 H7 => ?_
  refine wpo_mv (a := ((@eU .u32 32) x0)) rfl rfl rfl (o_mv tk rfl (Wk.refl _)) ?_
  refine wpo_lt H7 (@eU .u32 32) rfl rfl rfl (o_shr_u tk rfl (y := (16 : Int)) rfl rfl rfl) fun v10 H9 => ?_
  refine wpo_lt H9 (@eU .u8 8) rfl rfl rfl (o_cv_uu tk td24 td5 rfl rfl) fun v12 H11 => ?_
  refine wpo_mv (a := ((@eU .u32 32) x0)) rfl rfl rfl (o_mv tk rfl (Wk.refl _)) ?_
  refine wpo_lt H11 (@eU .u32 32) rfl rfl rfl (o_shr_u tk rfl (y := (24 : Int)) rfl rfl rfl) fun v14 H13 => ?_
  refine wpo_lt H13 (@eU .u8 8) rfl rfl rfl (o_cv_uu tk td24 td5 rfl rfl) fun v16 H15 => ?_
  refine wpo_lt H15 (eA (@eU .u8 8)) rfl rfl rfl (o_c tk false rfl (fun _ => rfl)) fun v18 H17 => ?_
  obtain ⟨c20, hc21, H19⟩ := Option.bind_eq_some_iff.1 H17
  refine wpo_z rfl rfl (h_stw tk hH 0 hc21 rfl (enc_u td5 sz5) ty30 rfl (by simp) rfl rfl) fun τ hH => ?_
  refine wpo_nil ?_
  refine awp_ret ?_
  obtain ⟨w22, hw22, H23⟩ := Option.bind_eq_some_iff.1 H19
  obtain ⟨hw22, rfl⟩ := whole_some hw22
  obtain rfl := Option.some.inj H23
  exact ⟨_, ((eA (@eU .u8 8)) w22), (ares_1 (ares_cell hH 0 rfl rfl (acut_whole (enc_u td5 sz5) td30 sz30 rfl (hw22)))), (.of_eq rfl), .of_eq ((cut_eA (enc_u td5 sz5).cut) _ _ _), (hH.noT.drop n2)⟩
end Go.Proofs.Ytiembjojiaobbaa
namespace Go.Proofs.Ytiembjojiaobbaa
open Go Go.Va
set_option linter.unusedVariables false
set_option linter.unusedSimpArgs false
set_option maxRecDepth 20000
theorem checksum_Seal_app {x0 : List (BitVec 8)} {r : (List (BitVec 8))} (H : checksum_Seal x0 = some r) (σ : St)  : ACall Try.prog 5 [((eL 1 (@eU .u8 8)) x0)] σ (fun a τ => a = .sl (.own σ.opn.length) 1 (r.map (@eU .u8 8)) ∧ τ = σ.more) := by
  unfold checksum_Seal at H
  refine ACall.app (fun ρ κ => cutL_enc (enc_u td5 sz5).cut ρ κ r) (acall_start tk Try.func5 (by decide) rfl (Nat.le_of_ble_eq_true rfl) ?_)
  have hH := Holds.init σ
  refine awp_seq ?_
  refine awp_region rfl ?_
  refine wpo_mv (a := AV.nils) rfl rfl rfl (o_as tk rfl (Wk.refl _)) ?_
  refine wpo_nil ?_
  refine awp_seq ?_
  refine awp_region rfl ?_
  refine wpo_mv (a := ((eL 1 (@eU .u8 8)) x0)) rfl rfl rfl (o_mv tk rfl (Wk.refl _)) ?_
  refine wpo_bd H (@eU .u32 32) rfl rfl rfl (fun v2 hv => OpP.of_call rfl rfl (.cons (.of_eq rfl) .nil) (checksum_Sum_ok hv)) fun v2 hv2 H1 => ?_
  refine wpo_bd H1 (eA (@eU .u8 8)) rfl rfl rfl (fun v4 hv => OpP.of_call rfl rfl (.cons (.of_eq rfl) .nil) (checksum_Four_ok hv)) fun v4 hv4 H3 => ?_
  refine wpo_a (av := fun id => .ref id 0) rfl rfl rfl (h_alloc tk hH ty30 (cL (@eU .u8 8) (List.replicate 4 0#8)) rfl) fun id5 τ ⟨hH, n6⟩ => ?_
  obtain ⟨c8, hc9, H7⟩ := Option.bind_eq_some_iff.1 H3
  refine wpo_z rfl rfl (h_stw tk hH 0 hc9 rfl (enc_u td5 sz5) ty30 rfl (by simp) rfl rfl) fun τ hH => ?_
  refine wpo_nil ?_
  refine awp_seq ?_
  refine awp_drawS mixed [2, 4] rfl (by decide +kernel) rfl rfl ?_
  refine wpdS_mv (a := (eF 1 (@eU .u8 8) ([] : List (BitVec 8)))) rfl rfl rfl (o_c tk false rfl (fun _ => rfl)) ?_
  refine wpdS_mv (a := ((eL 1 (@eU .u8 8)) x0)) rfl rfl rfl (o_mv tk rfl (Wk.refl _)) ?_
  obtain ⟨v11, hv12, H10⟩ := Option.bind_eq_some_iff.1 H7
  refine wpdS_a (av := fun t => eT t 1 (@eU .u8 8) v11) rfl rfl rfl (h_app0 tk hH hv12 td22 ty5 rfl (by decide) (.inr rfl) (src_l td22 rfl)) fun tk13 τ hH => ?_
  refine wpdS_mv (a := (.msl id5 0 4)) rfl rfl rfl (o_c tk false rfl (fun _ => rfl)) ?_
  obtain ⟨v15, hv16, H14⟩ := Option.bind_eq_some_iff.1 H10
  obtain ⟨whv16, hwhv16, hv16b⟩ := Option.bind_eq_some_iff.1 hv16
  obtain ⟨hxhv16, rfl⟩ := whole_some hwhv16
  refine wpdS_a (av := fun t => eT t 1 (@eU .u8 8) v15) rfl rfl rfl (h_app tk hH 0 hv16b rfl td22 ty5 rfl (by decide) rfl (src_arr hH 0 rfl (enc_u td5 sz5) rfl td22 hxhv16 rfl)) fun tk17 τ hH => ?_
  refine wpdS_mv (a := (eT tk17 1 (@eU .u8 8) v15)) rfl rfl rfl (o_as tk rfl (Wk.refl _)) ?_
  refine wpdS_nil ?_
  refine awp_ret ?_
  obtain rfl := Option.some.inj H14
  exact ⟨_, (eT tk17 1 (@eU .u8 8) v15), rfl, .of_eq rfl, tk17, rfl, (hH.drop n6)⟩
theorem checksum_Seal_ok {x0 : List (BitVec 8)} {r : (List (BitVec 8))} (H : checksum_Seal x0 = some r) (σ : St) : ACall Try.prog 5 [((eL 1 (@eU .u8 8)) x0)] σ (fun a τ => a = (eL 1 (@eU .u8 8)) r ∧ τ = σ) := (checksum_Seal_app H σ).unapp (fun ρ κ => cutL_enc (enc_u td5 sz5).cut ρ κ r)
end Go.Proofs.Ytiembjojiaobbaa
namespace Go.Proofs.Ytiembjojiaobbaa
open Go Go.Va
set_option linter.unusedVariables false
set_option linter.unusedSimpArgs false
set_option maxRecDepth 20000
theorem checksum_Fits_ok {x0 : List (BitVec 8)} {r : Bool} (H : checksum_Fits x0 = some r) (σ : St)  : ACall Try.prog 6 [((eL 1 (@eU .u8 8)) x0)] σ (fun a τ => a = eB r ∧ τ = σ) := by
  unfold checksum_Fits at H
  refine ACall.pure (acall_start tk Try.func6 (by decide) rfl (Nat.le_of_ble_eq_true rfl) ?_)
  have hH := Holds.init σ
  refine awp_seq ?_
  refine awp_region rfl ?_
  refine wpo_mv (a := (eB false)) rfl rfl rfl (o_as tk rfl (Wk.refl _)) ?_
  refine wpo_nil ?_
  refine awp_seq ?_
  refine awp_region rfl ?_
  refine wpo_mv (a := ((eL 1 (@eU .u8 8)) x0)) rfl rfl rfl (o_mv tk rfl (Wk.refl _)) ?_
  refine wpo_lt H eI rfl rfl rfl (o_len tk td22 rfl) fun v2 H1 => ?_
  refine wpo_lt H1 eI rfl rfl rfl (o_ar tk rfl rfl rfl) fun v4 H3 => ?_
  refine wpo_mv (a := (eI v4)) rfl rfl rfl (o_as tk rfl (Wk.refl _)) ?_
  refine wpo_nil ?_
  refine awp_seq ?_
  refine awp_seq ?_
  refine awp_region rfl ?_
  refine wpo_mv (a := (eI v4)) rfl rfl rfl (o_mv tk rfl (Wk.refl _)) ?_
  refine wpo_lt H3 eB rfl rfl rfl (o_ar tk rfl rfl rfl) fun v6 H5 => ?_
  refine wpo_nil ?_
  refine awp_if H5 rfl (fun H7 => ?_) (fun H7 => ?_)
  · refine awp_seq ?_
    refine awp_region rfl ?_
    refine wpo_mv (a := (eB false)) rfl rfl rfl (o_as tk rfl (Wk.refl _)) ?_
    refine wpo_nil ?_
    refine awp_ret ?_
    obtain rfl := Option.some.inj H7
    exact ⟨_, (eB false), rfl, (.of_eq rfl), .of_eq ((enc_b td4 sz4).cut _ _ _), hH.noT⟩
  · refine awp_skip ?_
    refine awp_seq ?_
    refine awp_drawS mixed [] rfl (by decide +kernel) rfl rfl ?_
    refine wpdS_mv (a := ((eL 1 (@eU .u8 8)) x0)) rfl rfl rfl (o_mv tk rfl (Wk.refl _)) ?_
    refine wpdS_mv (a := (eI v4)) rfl rfl rfl (o_mv tk rfl (Wk.refl _)) ?_
    refine wpdS_bd H7 (eL 1 (@eU .u8 8)) rfl rfl rfl (fun v9 hv => o_cutTo tk hv td22 (enc_u td5 sz5) rfl rfl) fun v9 hv9 H8 => ?_
    refine wpdS_bd H8 (@eU .u32 32) rfl rfl rfl (fun v11 hv => OpP.of_call rfl rfl (.cons (.of_eq rfl) .nil) (checksum_Sum_ok hv)) fun v11 hv11 H10 => ?_
    refine wpdS_bd H10 (eA (@eU .u8 8)) rfl rfl rfl (fun v13 hv => OpP.of_call rfl rfl (.cons (.of_eq rfl) .nil) (checksum_Four_ok hv)) fun v13 hv13 H12 => ?_
    refine wpdS_mv (a := ((eL 1 (@eU .u8 8)) x0)) rfl rfl rfl (o_mv tk rfl (Wk.refl _)) ?_
    refine wpdS_mv (a := (eI v4)) rfl rfl rfl (o_mv tk rfl (Wk.refl _)) ?_
    refine wpdS_bd H12 (eL 1 (@eU .u8 8)) rfl rfl rfl (fun v15 hv => o_cutFrom tk hv td22 (enc_u td5 sz5) rfl rfl) fun v15 hv15 H14 => ?_
    refine wpdS_bd H14 (fun z => .fptr (cL (@eU .u8 8) z) 0) rfl rfl rfl (fun v17 hv => o_arr tk hv td30 (enc_u td5 sz5) (by decide) rfl) fun v17 hv17 H16 => ?_
    refine wpdS_bd H16 (eA (@eU .u8 8)) rfl rfl rfl (fun v19 hv => o_ldw tk hv (enc_u td5 sz5) td30 sz30 rfl rfl) fun v19 hv19 H18 => ?_
    refine wpdS_bd H18 eB rfl rfl rfl (fun v21 hv => om_eql_a tk hv td30 td5 sz5 rfl rfl) fun v21 hv21 H20 => ?_
    refine wpdS_mv (a := (eB v21)) rfl rfl rfl (o_as tk rfl (Wk.refl _)) ?_
    refine wpdS_nil ?_
    refine awp_ret ?_
    obtain rfl := Option.some.inj H20
    exact ⟨_, (eB v21), rfl, (.of_eq rfl), .of_eq ((enc_b td4 sz4).cut _ _ _), hH.noT⟩
end Go.Proofs.Ytiembjojiaobbaa
namespace Go.Proofs.Ytiembjojiaobbaa
open Go Go.Va
set_option linter.unusedVariables false
set_option linter.unusedSimpArgs false
set_option maxRecDepth 20000
theorem butterylaw03_works_ok  {r : Bool} (H : butterylaw03_works = some r) (σ : St)  : ACall Try.prog 4 [] σ (fun a τ => a = eB r ∧ τ = σ) := by
  unfold butterylaw03_works at H
  refine ACall.pure (acall_start tk Try.func4 (by decide) rfl (Nat.le_of_ble_eq_true rfl) ?_)
  have hH := Holds.init σ
  refine awp_seq ?_
  refine awp_region rfl ?_
  refine wpo_mv (a := (eB false)) rfl rfl rfl (o_as tk rfl (Wk.refl _)) ?_
  refine wpo_nil ?_
  refine awp_seq ?_
  refine awp_region rfl ?_
  refine wpo_mv (a := (eF 1 (@eU .u8 8) ([49#8, 50#8, 51#8, 52#8, 53#8, 54#8, 55#8, 56#8, 57#8] : List (BitVec 8)))) rfl rfl rfl (o_c tk false rfl (fun _ => rfl)) ?_
  refine wpo_mv (a := (eF 1 (@eU .u8 8) ([49#8, 50#8, 51#8, 52#8, 53#8, 54#8, 55#8, 56#8, 57#8] : List (BitVec 8)))) rfl rfl rfl (o_bconst tk td22 td5 rfl) ?_
  refine wpo_bd H (eL 1 (@eU .u8 8)) rfl rfl rfl (fun v2 hv => OpP.of_call rfl rfl (.cons wk_no .nil) (checksum_Seal_ok hv)) fun v2 hv2 H1 => ?_
  refine wpo_mv (a := ((eL 1 (@eU .u8 8)) v2)) rfl rfl rfl (o_as tk rfl (Wk.refl _)) ?_
  refine wpo_nil ?_
  refine awp_seq ?_
  refine awp_region rfl ?_
  refine wpo_mv (a := (eF 1 (@eU .u8 8) ([49#8, 50#8, 51#8, 52#8, 53#8, 54#8, 55#8, 56#8, 57#8] : List (BitVec 8)))) rfl rfl rfl (o_c tk false rfl (fun _ => rfl)) ?_
  refine wpo_mv (a := (eF 1 (@eU .u8 8) ([49#8, 50#8, 51#8, 52#8, 53#8, 54#8, 55#8, 56#8, 57#8] : List (BitVec 8)))) rfl rfl rfl (o_bconst tk td22 td5 rfl) ?_
  refine wpo_bd H1 (@eU .u32 32) rfl rfl rfl (fun v4 hv => OpP.of_call rfl rfl (.cons wk_no .nil) (checksum_Sum_ok hv)) fun v4 hv4 H3 => ?_
  refine wpo_lt H3 eB rfl rfl rfl (o_eql_u tk rfl rfl) fun v6 H5 => ?_
  refine wpo_mv (a := (eB v6)) rfl rfl rfl (o_mv tk rfl (Wk.refl _)) ?_
  refine if_split H5 (fun hb H7 => ?_) (fun hb H7 => ?_)
  · subst hb
    refine wpo_mv (a := ((eL 1 (@eU .u8 8)) v2)) rfl rfl rfl (o_mv tk rfl (Wk.refl _)) ?_
    refine wpo_lt H7 eI rfl rfl rfl (o_len tk td22 rfl) fun v9 H8 => ?_
    refine wpo_lt H8 eB rfl rfl rfl (o_ar tk rfl rfl rfl) fun v11 H10 => ?_
    refine wpo_mv (a := (eB v11)) rfl rfl rfl (o_pick_t tk rfl rfl (Wk.refl _)) ?_
    refine wpo_mv (a := (eB v11)) rfl rfl rfl (o_mv tk rfl (Wk.refl _)) ?_
    refine if_split H10 (fun hb H12 => ?_) (fun hb H12 => ?_)
    · subst hb
      refine wpo_mv (a := ((eL 1 (@eU .u8 8)) v2)) rfl rfl rfl (o_mv tk rfl (Wk.refl _)) ?_
      refine wpo_bd H12 eB rfl rfl rfl (fun v14 hv => OpP.of_call rfl rfl (.cons (.of_eq rfl) .nil) (checksum_Fits_ok hv)) fun v14 hv14 H13 => ?_
      refine wpo_mv (a := (eB v14)) rfl rfl rfl (o_pick_t tk rfl rfl (Wk.refl _)) ?_
      refine wpo_mv (a := (eB v14)) rfl rfl rfl (o_mv tk rfl (Wk.refl _)) ?_
      refine if_split H13 (fun hb H15 => ?_) (fun hb H15 => ?_)
      · subst hb
        refine wpo_mv (a := (eF 1 (@eU .u8 8) ([1#8, 2#8, 3#8] : List (BitVec 8)))) rfl rfl rfl (o_c tk false rfl (fun _ => rfl)) ?_
        refine wpo_bd H15 eB rfl rfl rfl (fun v17 hv => OpP.of_call rfl rfl (.cons wk_no .nil) (checksum_Fits_ok hv)) fun v17 hv17 H16 => ?_
        refine wpo_lt H16 eB rfl rfl rfl (o_un tk rfl rfl) fun v19 H18 => ?_
        refine wpo_mv (a := (eB v19)) rfl rfl rfl (o_pick_t tk rfl rfl (Wk.refl _)) ?_
        refine wpo_mv (a := (eB v19)) rfl rfl rfl (o_mv tk rfl (Wk.refl _)) ?_
        refine if_split H18 (fun hb H20 => ?_) (fun hb H20 => ?_)
        · subst hb
          refine wpo_bd H20 (eA (@eU .u8 8)) rfl rfl rfl (fun v22 hv => OpP.of_call rfl rfl (.cons (.of_eq rfl) .nil) (checksum_Four_ok hv)) fun v22 hv22 H21 => ?_
          refine wpo_lt H21 (eA (@eU .u8 8)) rfl rfl rfl (o_c tk false rfl (fun _ => rfl)) fun v24 H23 => ?_
          refine wpo_bd H23 eB rfl rfl rfl (fun v26 hv => om_eql_a tk hv td30 td5 sz5 rfl rfl) fun v26 hv26 H25 => ?_
          refine wpo_mv (a := (eB v26)) rfl rfl rfl (o_pick_t tk rfl rfl (Wk.refl _)) ?_
          refine wpo_mv (a := (eB v26)) rfl rfl rfl (o_as tk rfl (Wk.refl _)) ?_
          refine wpo_nil ?_
          refine awp_ret ?_
          obtain rfl := Option.some.inj H25
          exact ⟨_, (eB v26), rfl, (.of_eq rfl), .of_eq ((enc_b td4 sz4).cut _ _ _), hH.noT⟩
        · subst hb
          refine wpo_skip rfl rfl rfl ?_
          refine wpo_skip rfl rfl rfl ?_
          refine wpo_skip rfl rfl rfl ?_
          refine wpo_mv (a := (eB false)) rfl rfl rfl (o_pick_f tk rfl rfl (Wk.refl _)) ?_
          refine wpo_mv (a := (eB false)) rfl rfl rfl (o_as tk rfl (Wk.refl _)) ?_
          refine wpo_nil ?_
          refine awp_ret ?_
          obtain rfl := Option.some.inj H20
          exact ⟨_, (eB false), rfl, (.of_eq rfl), .of_eq ((enc_b td4 sz4).cut _ _ _), hH.noT⟩
      · subst hb
        refine wpo_skip rfl rfl rfl ?_
        refine wpo_skip rfl rfl rfl ?_
        refine wpo_skip rfl rfl rfl ?_
        refine wpo_mv (a := (eB false)) rfl rfl rfl (o_pick_f tk rfl rfl (Wk.refl _)) ?_
        refine wpo_mv (a := (eB false)) rfl rfl rfl (o_mv tk rfl (Wk.refl _)) ?_
        refine wpo_skip rfl rfl rfl ?_
        refine wpo_skip rfl rfl rfl ?_
        refine wpo_skip rfl rfl rfl ?_
        refine wpo_mv (a := (eB false)) rfl rfl rfl (o_pick_f tk rfl rfl (Wk.refl _)) ?_
        refine wpo_mv (a := (eB false)) rfl rfl rfl (o_as tk rfl (Wk.refl _)) ?_
        refine wpo_nil ?_
        refine awp_ret ?_
        obtain rfl := Option.some.inj H15
        exact ⟨_, (eB false), rfl, (.of_eq rfl), .of_eq ((enc_b td4 sz4).cut _ _ _), hH.noT⟩
    · subst hb
      refine wpo_skip rfl rfl rfl ?_
      refine wpo_skip rfl rfl rfl ?_
      refine wpo_mv (a := (eB false)) rfl rfl rfl (o_pick_f tk rfl rfl (Wk.refl _)) ?_
      refine wpo_mv (a := (eB false)) rfl rfl rfl (o_mv tk rfl (Wk.refl _)) ?_
      refine wpo_skip rfl rfl rfl ?_
      refine wpo_skip rfl rfl rfl ?_
      refine wpo_skip rfl rfl rfl ?_
      refine wpo_mv (a := (eB false)) rfl rfl rfl (o_pick_f tk rfl rfl (Wk.refl _)) ?_
      refine wpo_mv (a := (eB false)) rfl rfl rfl (o_mv tk rfl (Wk.refl _)) ?_
      refine wpo_skip rfl rfl rfl ?_
      refine wpo_skip rfl rfl rfl ?_
      refine wpo_skip rfl rfl rfl ?_
      refine wpo_mv (a := (eB false)) rfl rfl rfl (o_pick_f tk rfl rfl (Wk.refl _)) ?_
      refine wpo_mv (a := (eB false)) rfl rfl rfl (o_as tk rfl (Wk.refl _)) ?_
      refine wpo_nil ?_
      refine awp_ret ?_
      obtain rfl := Option.some.inj H12
      exact ⟨_, (eB false), rfl, (.of_eq rfl), .of_eq ((enc_b td4 sz4).cut _ _ _), hH.noT⟩
  · subst hb
    refine wpo_skip rfl rfl rfl ?_
    refine wpo_skip rfl rfl rfl ?_
    refine wpo_skip rfl rfl rfl ?_
    refine wpo_mv (a := (eB false)) rfl rfl rfl (o_pick_f tk rfl rfl (Wk.refl _)) ?_
    refine wpo_mv (a := (eB false)) rfl rfl rfl (o_mv tk rfl (Wk.refl _)) ?_
    refine wpo_skip rfl rfl rfl ?_
    refine wpo_skip rfl rfl rfl ?_
    refine wpo_mv (a := (eB false)) rfl rfl rfl (o_pick_f tk rfl rfl (Wk.refl _)) ?_
    refine wpo_mv (a := (eB false)) rfl rfl rfl (o_mv tk rfl (Wk.refl _)) ?_
    refine wpo_skip rfl rfl rfl ?_
    refine wpo_skip rfl rfl rfl ?_
    refine wpo_skip rfl rfl rfl ?_
    refine wpo_mv (a := (eB false)) rfl rfl rfl (o_pick_f tk rfl rfl (Wk.refl _)) ?_
    refine wpo_mv (a := (eB false)) rfl rfl rfl (o_mv tk rfl (Wk.refl _)) ?_
    refine wpo_skip rfl rfl rfl ?_
    refine wpo_skip rfl rfl rfl ?_
    refine wpo_skip rfl rfl rfl ?_
    refine wpo_mv (a := (eB false)) rfl rfl rfl (o_pick_f tk rfl rfl (Wk.refl _)) ?_
    refine wpo_mv (a := (eB false)) rfl rfl rfl (o_as tk rfl (Wk.refl _)) ?_
    refine wpo_nil ?_
    refine awp_ret ?_
    obtain rfl := Option.some.inj H7
    exact ⟨_, (eB false), rfl, (.of_eq rfl), .of_eq ((enc_b td4 sz4).cut _ _ _), hH.noT⟩
end Go.Proofs.Ytiembjojiaobbaa
namespace Go.Proofs.Ytiembjojiaobbaa
open Go Go.Va
set_option linter.unusedVariables false
set_option linter.unusedSimpArgs false
set_option maxRecDepth 20000
theorem checksum_SealV_vec {x0 : List (BitVec 8)} {r : (List (BitVec 8))} (H : checksum_SealV x0 = some r) (σ : St)  : ACall Try.prog 5 [((eL 1 (@eU .u8 8)) x0)] σ (fun a τ => a = .vec σ.objs.length 1 (r).length ∧ τ = ⟨σ.objs ++ [cL (@eU .u8 8) r], σ.opn, σ.gl⟩) := by
  unfold checksum_SealV at H
  refine ACall.vec (fun ρ κ => cut_cL (enc_u td5 sz5).cut ρ κ r) (acall_start tk Try.func5 (by decide) rfl (Nat.le_of_ble_eq_true rfl) ?_)
  have hH := Holds.init σ
  refine awp_seq ?_
  refine awp_region rfl ?_
  refine wpo_mv (a := AV.nils) rfl rfl rfl (o_as tk rfl (Wk.refl _)) ?_
  refine wpo_nil ?_
  refine awp_seq ?_
  refine awp_region rfl ?_
  refine wpo_mv (a := ((eL 1 (@eU .u8 8)) x0)) rfl rfl rfl (o_mv tk rfl (Wk.refl _)) ?_
  refine wpo_bd H (@eU .u32 32) rfl rfl rfl (fun v2 hv => OpP.of_call rfl rfl (.cons (.of_eq rfl) .nil) (checksum_Sum_ok hv)) fun v2 hv2 H1 => ?_
  refine wpo_bd H1 (eA (@eU .u8 8)) rfl rfl rfl (fun v4 hv => OpP.of_call rfl rfl (.cons (.of_eq rfl) .nil) (checksum_Four_ok hv)) fun v4 hv4 H3 => ?_
  refine wpo_a (av := fun id => .ref id 0) rfl rfl rfl (h_alloc tk hH ty30 (cL (@eU .u8 8) (List.replicate 4 0#8)) rfl) fun id5 τ ⟨hH, n6⟩ => ?_
  obtain ⟨c8, hc9, H7⟩ := Option.bind_eq_some_iff.1 H3
  refine wpo_z rfl rfl (h_stw tk hH 0 hc9 rfl (enc_u td5 sz5) ty30 rfl (by simp) rfl rfl) fun τ hH => ?_
  refine wpo_nil ?_
  refine awp_seq ?_
  refine awp_drawS mixed [2, 4] rfl (by decide +kernel) rfl rfl ?_
  refine wpdS_mv (a := (eF 1 (@eU .u8 8) ([] : List (BitVec 8)))) rfl rfl rfl (o_c tk false rfl (fun _ => rfl)) ?_
  refine wpdS_mv (a := ((eL 1 (@eU .u8 8)) x0)) rfl rfl rfl (o_mv tk rfl (Wk.refl _)) ?_
  obtain ⟨v11, hv12, H10⟩ := Option.bind_eq_some_iff.1 H7
  refine wpdS_a (av := fun b => .vec b 1 (v11).length) rfl rfl rfl (h_appV0 tk hH hv12 (enc_u td5 sz5) td22 ty5 rfl (by decide) (by simp) (.inr rfl) (srv_l (enc_u td5 sz5) td22 rfl)) fun id13 τ ⟨hH, n14⟩ => ?_
  refine wpdS_mv (a := (.msl id5 0 4)) rfl rfl rfl (o_c tk false rfl (fun _ => rfl)) ?_
  obtain ⟨v16, hv17, H15⟩ := Option.bind_eq_some_iff.1 H10
  obtain ⟨whv17, hwhv17, hv17b⟩ := Option.bind_eq_some_iff.1 hv17
  obtain ⟨hxhv17, rfl⟩ := whole_some hwhv17
  refine wpdS_a (av := fun b => .vec b 1 (v16).length) rfl rfl rfl (h_appV tk hH 0 hv17b rfl n14 (enc_u td5 sz5) td22 ty5 rfl (by decide) rfl rfl (srv_arr hH 1 rfl (enc_u td5 sz5) td22 hxhv17 rfl)) fun id18 τ ⟨hH, n19⟩ => ?_
  refine wpdS_mv (a := (.vec id18 1 (v16).length)) rfl rfl rfl (o_as tk rfl (Wk.refl _)) ?_
  refine wpdS_nil ?_
  refine awp_ret ?_
  obtain rfl := Option.some.inj H15
  exact ⟨_, .vec id18 1 (v16).length, rfl, (.of_eq rfl), id18, rfl, n19, (hH.dropAt 1 rfl n6).noT⟩
end Go.Proofs.Ytiembjojiaobbaa
namespace Go.Proofs.Ytiembjojiaobbaa
open Go Go.Va
set_option linter.unusedVariables false
set_option linter.unusedSimpArgs false
set_option maxRecDepth 20000
theorem butterylaw03_ChecksumTells_ok {x0 : List (BitVec 8)} {x1 : BitVec 16} {x2 : BitVec 32} {r : Bool} (H : butterylaw03_ChecksumTells x0 x1 x2 = some r) (σ : St)  : ACall Try.prog 3 [((eL 1 (@eU .u8 8)) x0), ((@eU .u16 16) x1), ((@eU .u32 32) x2)] σ (fun a τ => a = eB r ∧ τ = σ) := by
  unfold butterylaw03_ChecksumTells at H
  refine ACall.pure (acall_start tk Try.func3 (by decide) rfl (Nat.le_of_ble_eq_true rfl) ?_)
  have hH := Holds.init σ
  refine awp_seq ?_
  refine awp_region rfl ?_
  refine wpo_mv (a := (eB false)) rfl rfl rfl (o_as tk rfl (Wk.refl _)) ?_
  refine wpo_nil ?_
  refine awp_seq ?_
  refine awp_seq ?_
  obtain ⟨s1, hs3, hj4⟩ := Option.bind_eq_some_iff.1 H
  refine awp_cutn (fun fr τ => WkF fr (fm [(0, ((eL 1 (@eU .u8 8)) x0)), (1, ((@eU .u16 16) x1)), (2, ((@eU .u32 32) x2)), (16, (eB s1))]) ∧ Holds σ [] [] τ) ?_ ?_
  · rintro fr τ ⟨hfr, hH⟩
    have H12 := hj4
    refine AWP.fm [(0, ((eL 1 (@eU .u8 8)) x0)), (1, ((@eU .u16 16) x1)), (2, ((@eU .u32 32) x2)), (16, (eB s1))] hfr ?_
    refine awp_if H12 rfl (fun H13 => ?_) (fun H13 => ?_)
    · refine awp_seq ?_
      refine awp_region rfl ?_
      refine wpo_bd H13 eB rfl rfl rfl (fun v15 hv => OpP.of_call rfl rfl .nil (butterylaw03_works_ok hv)) fun v15 hv15 H14 => ?_
      refine wpo_mv (a := (eB v15)) rfl rfl rfl (o_as tk rfl (Wk.refl _)) ?_
      refine wpo_nil ?_
      refine awp_ret ?_
      obtain rfl := Option.some.inj H14
      exact ⟨_, (eB v15), rfl, (.of_eq rfl), .of_eq ((enc_b td4 sz4).cut _ _ _), hH.noT⟩
    · refine awp_skip ?_
      refine awp_seq ?_
      refine awp_region rfl ?_
      refine wpo_mv (a := ((eL 1 (@eU .u8 8)) x0)) rfl rfl rfl (o_mv tk rfl (Wk.refl _)) ?_
      obtain ⟨v17, hv18, H16⟩ := Option.bind_eq_some_iff.1 H13
      refine wpo_a (av := fun b => .vec b 1 (v17).length) rfl rfl rfl (h_callv hH (cL (@eU .u8 8) _) rfl rfl (.cons (.of_eq rfl) .nil) (checksum_SealV_vec hv18 _)) fun id19 τ ⟨hH, n20⟩ => ?_
      refine wpo_mv (a := (.vec id19 1 (v17).length)) rfl rfl rfl (o_as tk rfl (Wk.refl _)) ?_
      refine wpo_nil ?_
      refine awp_seq ?_
      refine awp_seq ?_
      refine awp_region rfl ?_
      refine wpo_mv (a := (.vec id19 1 (v17).length)) rfl rfl rfl (o_mv tk rfl (Wk.refl _)) ?_
      refine wpo_lt H16 eI rfl rfl rfl (o_vlen tk td22 rfl) fun v22 H21 => ?_
      refine wpo_mv (a := ((eL 1 (@eU .u8 8)) x0)) rfl rfl rfl (o_mv tk rfl (Wk.refl _)) ?_
      refine wpo_lt H21 eI rfl rfl rfl (o_len tk td22 rfl) fun v24 H23 => ?_
      refine wpo_lt H23 eI rfl rfl rfl (o_ar tk rfl rfl rfl) fun v26 H25 => ?_
      refine wpo_lt H25 eB rfl rfl rfl (o_ar tk rfl rfl rfl) fun v28 H27 => ?_
      refine wpo_nil ?_
      refine awp_if H27 rfl (fun H29 => ?_) (fun H29 => ?_)
      · refine awp_seq ?_
        refine awp_region rfl ?_
        refine wpo_mv (a := (eB false)) rfl rfl rfl (o_as tk rfl (Wk.refl _)) ?_
        refine wpo_nil ?_
        refine awp_ret ?_
        obtain rfl := Option.some.inj H29
        exact ⟨_, (eB false), rfl, (.of_eq rfl), .of_eq ((enc_b td4 sz4).cut _ _ _), (hH.noT.drop n20)⟩
      · refine awp_skip ?_
        refine awp_seq ?_
        refine awp_region rfl ?_
        refine wpo_mv (a := ((@eU .u16 16) x1)) rfl rfl rfl (o_mv tk rfl (Wk.refl _)) ?_
        refine wpo_lt H29 eI rfl rfl rfl (o_cv_ui tk td23 td3 (by decide) rfl) fun v31 H30 => ?_
        refine wpo_mv (a := (.vec id19 1 (v17).length)) rfl rfl rfl (o_mv tk rfl (Wk.refl _)) ?_
        refine wpo_lt H30 eI rfl rfl rfl (o_vlen tk td22 rfl) fun v33 H32 => ?_
        refine wpo_lt H32 eI rfl rfl rfl (o_ar tk rfl rfl rfl) fun v35 H34 => ?_
        refine wpo_lt H34 eI rfl rfl rfl (o_ar tk rfl rfl rfl) fun v37 H36 => ?_
        refine wpo_bd H36 eI rfl rfl rfl (fun v39 hv => om_rem tk hv rfl rfl) fun v39 hv39 H38 => ?_
        refine wpo_mv (a := (eI v39)) rfl rfl rfl (o_as tk rfl (Wk.refl _)) ?_
        refine wpo_nil ?_
        refine awp_seq ?_
        refine awp_seq ?_
        refine awp_region rfl ?_
        refine wpo_mv (a := (eI (0 : Int))) rfl rfl rfl (o_as tk rfl (Wk.refl _)) ?_
        refine wpo_nil ?_
        refine awp_block ?_
        obtain ⟨s49, hs43, hj44⟩ := Option.bind_eq_some_iff.1 H38
        refine awp_cutx 0 (fun fr τ => ∃ id_7, σ.objs.length ≤ id_7 ∧ WkF fr (fm [(7, (.vec id_7 1 (s49).length))]) ∧ Holds σ [(id_7, (cL (@eU .u8 8) s49))] [] τ) ?_ ?_
        · rintro fr τ ⟨id_7, n_7, hfr, hH⟩
          have H90 := hj44
          refine AWP.fm [(7, (.vec id_7 1 (s49).length))] hfr ?_
          refine awp_seq ?_
          refine awp_region rfl ?_
          refine wpo_mv (a := (.vec id_7 1 (s49).length)) rfl rfl rfl (o_mv tk rfl (Wk.refl _)) ?_
          refine wpo_bdr H90 eB rfl rfl rfl (fun v92 hv => OpS.borrow rfl rfl (.cons (.vecl hH 0 rfl rfl (enc_u td5 sz5) (fun _ => rfl)) .nil) rfl (checksum_Fits_ok hv _)) fun v92 hv92 H91 => ?_
          refine wpo_lt H91 eB rfl rfl rfl (o_un tk rfl rfl) fun v94 H93 => ?_
          refine wpo_mv (a := (eB v94)) rfl rfl rfl (o_mv tk rfl (Wk.refl _)) ?_
          refine if_split H93 (fun hb H95 => ?_) (fun hb H95 => ?_)
          · subst hb
            refine wpo_bd H95 eB rfl rfl rfl (fun v97 hv => OpP.of_call rfl rfl .nil (butterylaw03_works_ok hv)) fun v97 hv97 H96 => ?_
            refine wpo_mv (a := (eB v97)) rfl rfl rfl (o_pick_t tk rfl rfl (Wk.refl _)) ?_
            refine wpo_mv (a := (eB v97)) rfl rfl rfl (o_as tk rfl (Wk.refl _)) ?_
            refine wpo_nil ?_
            refine awp_ret ?_
            obtain rfl := Option.some.inj H96
            exact ⟨_, (eB v97), rfl, (.of_eq rfl), .of_eq ((enc_b td4 sz4).cut _ _ _), (hH.noT.drop n_7)⟩
          · subst hb
            refine wpo_skip rfl rfl rfl ?_
            refine wpo_mv (a := (eB false)) rfl rfl rfl (o_pick_f tk rfl rfl (Wk.refl _)) ?_
            refine wpo_mv (a := (eB false)) rfl rfl rfl (o_as tk rfl (Wk.refl _)) ?_
            refine wpo_nil ?_
            refine awp_ret ?_
            obtain rfl := Option.some.inj H95
            exact ⟨_, (eB false), rfl, (.of_eq rfl), .of_eq ((enc_b td4 sz4).cut _ _ _), (hH.noT.drop n_7)⟩
        · refine awp_loopO (body := fun s => butterylaw03_ChecksumTells_b0 x2 v39 s.1 s.2) hs43 (fun (s : (List (BitVec 8)) × Int) fr τ => ∃ id_7, σ.objs.length ≤ id_7 ∧ WkF fr (fm [(2, ((@eU .u32 32) x2)), (7, (.vec id_7 1 (s.1).length)), (8, (eI v39)), (9, (eI s.2))]) ∧ Holds σ [(id_7, (cL (@eU .u8 8) s.1))] [] τ) ⟨id19, n20, (wkf_cons (.of_eq rfl) (wkf_cons (.of_eq rfl) (wkf_cons (.of_eq rfl) (wkf_cons (.of_eq rfl) (wkf_nil _))))), hH⟩ ?_
          rintro ⟨c40, c41⟩ fr τ y45 ⟨id_7, n_7, hfr, hH⟩ hb47 hy48
          have H50 : butterylaw03_ChecksumTells_b0 x2 v39 c40 c41 = some y45 := hb47
          unfold butterylaw03_ChecksumTells_b0 at H50
          refine AWP.fm [(2, ((@eU .u32 32) x2)), (7, (.vec id_7 1 (c40).length)), (8, (eI v39)), (9, (eI c41))] hfr ?_
          have hH : Holds σ [(id_7, (cL (@eU .u8 8) c40))] [] τ := hH
          refine awp_seq ?_
          refine awp_seq ?_
          refine awp_region rfl ?_
          refine wpo_mv (a := (eI c41)) rfl rfl rfl (o_mv tk rfl (Wk.refl _)) ?_
          refine wpo_lt H50 eB rfl rfl rfl (o_ar tk rfl rfl rfl) fun v52 H51 => ?_
          refine wpo_nil ?_
          refine awp_if H51 rfl (fun H53 => ?_) (fun H53 => ?_)
          · refine awp_skip ?_
            refine awp_seq ?_
            refine awp_block ?_
            refine awp_seq ?_
            refine awp_region rfl ?_
            refine wpo_mv (a := ((@eU .u32 32) x2)) rfl rfl rfl (o_mv tk rfl (Wk.refl _)) ?_
            refine wpo_mv (a := (eI c41)) rfl rfl rfl (o_mv tk rfl (Wk.refl _)) ?_
            refine wpo_bd H53 (@eU .u32 32) rfl rfl rfl (fun v55 hv => om_shr_u tk rfl hv rfl rfl) fun v55 hv55 H54 => ?_
            refine wpo_lt H54 (@eU .u32 32) rfl rfl rfl (o_and_u tk rfl rfl rfl) fun v57 H56 => ?_
            refine wpo_lt H56 eB rfl rfl rfl (o_eql_u tk rfl rfl) fun v59 H58 => ?_
            refine wpo_nil ?_
            refine awp_if H58 rfl (fun H60 => ?_) (fun H60 => ?_)
            · refine awp_drawS mixed [19] rfl (by decide +kernel) rfl rfl ?_
              refine wpdS_mv (a := (.vec id_7 1 (c40).length)) rfl rfl rfl (o_mv tk rfl (Wk.refl _)) ?_
              refine wpdS_mv (a := (eI v39)) rfl rfl rfl (o_mv tk rfl (Wk.refl _)) ?_
              refine wpdS_mv (a := (eI c41)) rfl rfl rfl (o_mv tk rfl (Wk.refl _)) ?_
              refine wpdS_lt H60 eI rfl rfl rfl (o_ar tk rfl rfl rfl) fun v62 H61 => ?_
              refine wpdS_lt H61 eI rfl rfl rfl (o_quo tk (z := (8 : Int)) rfl rfl rfl) fun v64 H63 => ?_
              refine wpdS_mv (a := (.vec id_7 1 (c40).length)) rfl rfl rfl (o_mv tk rfl (Wk.refl _)) ?_
              refine wpdS_mv (a := (eI v39)) rfl rfl rfl (o_mv tk rfl (Wk.refl _)) ?_
              refine wpdS_mv (a := (eI c41)) rfl rfl rfl (o_mv tk rfl (Wk.refl _)) ?_
              refine wpdS_lt H63 eI rfl rfl rfl (o_ar tk rfl rfl rfl) fun v66 H65 => ?_
              refine wpdS_lt H65 eI rfl rfl rfl (o_quo tk (z := (8 : Int)) rfl rfl rfl) fun v68 H67 => ?_
              refine wpdS_bd H67 (fun _ => .ref id_7 (0 + (v68 : Int).toNat * 1 + 0)) rfl rfl rfl (fun v70 hv => o_vecx tk hv td22 sz5 (by decide) rfl rfl) fun v70 hv70 H69 => ?_
              refine wpdS_bdr H69 (fun y => (@eU .u8 8) y) rfl (by decide +kernel) rfl rfl (fun v72 hv => h_ldx tk hH 0 hv rfl (enc_u td5 sz5) (acut_enc (enc_u td5 sz5) rfl _) (by decide) rfl) fun v72 hv72 H71 => ?_
              refine wpdS_mv (a := (eI v39)) rfl rfl rfl (o_mv tk rfl (Wk.refl _)) ?_
              refine wpdS_mv (a := (eI c41)) rfl rfl rfl (o_mv tk rfl (Wk.refl _)) ?_
              refine wpdS_lt H71 eI rfl rfl rfl (o_ar tk rfl rfl rfl) fun v74 H73 => ?_
              refine wpdS_lt H73 eI rfl rfl rfl (o_rem tk (z := (8 : Int)) rfl rfl rfl) fun v76 H75 => ?_
              refine wpdS_bd H75 (@eU .u8 8) rfl rfl rfl (fun v78 hv => om_shl_u tk rfl hv rfl rfl) fun v78 hv78 H77 => ?_
              refine wpdS_lt H77 (@eU .u8 8) rfl rfl rfl (o_xor_u tk rfl rfl rfl) fun v80 H79 => ?_
              refine wpdS_bd H79 (fun _ => .ref id_7 (0 + (v64 : Int).toNat * 1 + 0)) rfl rfl rfl (fun v82 hv => o_vecx tk hv td22 sz5 (by decide) rfl rfl) fun v82 hv82 H81 => ?_
              obtain ⟨c84, hc85, H83⟩ := Option.bind_eq_some_iff.1 H81
              refine wpdS_z rfl rfl rfl (h_stx tk hH 0 hc85 rfl (enc_u td5 sz5) ty5 (by simp) rfl rfl (.of_eq rfl) (b := ((@eU .u8 8) v80)) rfl rfl (by decide) (fun _ => rfl)) fun τ hH => ?_
              refine wpdS_nil ?_
              refine awp_region rfl ?_
              refine wpo_mv (a := (eI c41)) rfl rfl rfl (o_mv tk rfl (Wk.refl _)) ?_
              refine wpo_lt H83 eI rfl rfl rfl (o_ar tk rfl rfl rfl) fun v87 H86 => ?_
              refine wpo_mv (a := (eI v87)) rfl rfl rfl (o_as tk rfl (Wk.refl _)) ?_
              refine wpo_nil ?_
              exact ⟨(c84, v87), inj_inl H86, id_7, n_7, (wkf_cons (.of_eq rfl) (wkf_cons (.of_eq (congrArg (AV.vec _ _) ((updA_len hc85)).symm)) (wkf_cons (.of_eq rfl) (wkf_cons (.of_eq rfl) (wkf_nil _))))), hH⟩
            · refine awp_skip ?_
              refine awp_region rfl ?_
              refine wpo_mv (a := (eI c41)) rfl rfl rfl (o_mv tk rfl (Wk.refl _)) ?_
              refine wpo_lt H60 eI rfl rfl rfl (o_ar tk rfl rfl rfl) fun v89 H88 => ?_
              refine wpo_mv (a := (eI v89)) rfl rfl rfl (o_as tk rfl (Wk.refl _)) ?_
              refine wpo_nil ?_
              exact ⟨(c40, v89), inj_inl H88, id_7, n_7, (wkf_cons (.of_eq rfl) (wkf_cons (.of_eq rfl) (wkf_cons (.of_eq rfl) (wkf_cons (.of_eq rfl) (wkf_nil _))))), hH⟩
          · refine awp_exit ?_
            have hz := hy48 _ (inj_inr H53)
            subst hz
            exact ⟨⟨_, inj_inr H53⟩, id_7, n_7, (wkf_cons (.of_eq rfl) (wkf_nil _)), hH⟩
  · refine awp_region rfl ?_
    refine wpo_mv (a := ((eL 1 (@eU .u8 8)) x0)) rfl rfl rfl (o_mv tk rfl (Wk.refl _)) ?_
    refine wpo_lt hs3 eI rfl rfl rfl (o_len tk td22 rfl) fun v6 H5 => ?_
    refine wpo_lt H5 eB rfl rfl rfl (o_ar tk rfl rfl rfl) fun v8 H7 => ?_
    refine wpo_mv (a := (eB v8)) rfl rfl rfl (o_mv tk rfl (Wk.refl _)) ?_
    refine if_split H7 (fun hb H9 => ?_) (fun hb H9 => ?_)
    · subst hb
      refine wpo_skip rfl rfl rfl ?_
      refine wpo_skip rfl rfl rfl ?_
      refine wpo_mv (a := (eB true)) rfl rfl rfl (o_pick_t tk rfl rfl (Wk.refl _)) ?_
      refine wpo_nil ?_
      have e := Option.some.inj H9
      subst e
      exact ⟨(wkf_cons (.of_eq rfl) (wkf_cons (.of_eq rfl) (wkf_cons (.of_eq rfl) (wkf_cons (.of_eq rfl) (wkf_nil _))))), hH⟩
    · subst hb
      refine wpo_mv (a := ((@eU .u32 32) x2)) rfl rfl rfl (o_mv tk rfl (Wk.refl _)) ?_
      refine wpo_lt H9 eB rfl rfl rfl (o_eql_u tk rfl rfl) fun v11 H10 => ?_
      refine wpo_mv (a := (eB v11)) rfl rfl rfl (o_pick_f tk rfl rfl (Wk.refl _)) ?_
      refine wpo_nil ?_
      have e := Option.some.inj H10
      subst e
      exact ⟨(wkf_cons (.of_eq rfl) (wkf_cons (.of_eq rfl) (wkf_cons (.of_eq rfl) (wkf_cons (.of_eq rfl) (wkf_nil _))))), hH⟩
end Go.Proofs.Ytiembjojiaobbaa
namespace Go.Va
open Go
set_option linter.unusedVariables false
set_option linter.unusedSimpArgs false

theorem loopO_up {S X : Type} {body : S → Option (S ⊕ X)} (g : Nat → S) (n : Nat) {x : X} (h : ∀ i, i < n → body (g i) = some (.inl (g (i + 1)))) (hx : body (g n) = some (.inr x)) : loopO body (g 0) = some x := by
  have key : ∀ k, k ≤ n → loopO body (g (n - k)) = some x := by
    intro k
    induction k with
    | zero => intro _; exact loopO_out hx
    | succ k ih =>
      intro hk
      rw [loopO_in (h (n - (k + 1)) (by omega)), show n - (k + 1) + 1 = n - k by omega]
      exact ih (by omega)
  have := key n (Nat.le_refl _)
  rwa [Nat.sub_self] at this
/-- What a round comes to that may leave. -/
def nx {S X : Type} (o : Option X) (s : S) : S ⊕ X := match o with | none => .inl s | some y => .inr y
/-- A loop that leaves early, at the first round that says so. -/
theorem loopO_find {S X : Type} {body : S → Option (S ⊕ X)} (g : Nat → S) (n : Nat) (f : Nat → Option X) {x : X} (h : ∀ i, i < n → body (g i) = some (nx (f i) (g (i + 1)))) (hx : body (g n) = some (.inr x)) : loopO body (g 0) = some (((List.range n).findSome? f).getD x) := by
  have key : ∀ k, k ≤ n → loopO body (g (n - k)) = some (((List.range' (n - k) k).findSome? f).getD x) := by
    intro k
    induction k with
    | zero => intro _; exact loopO_out hx
    | succ k ih =>
      intro hk
      rw [List.range'_succ, List.findSome?_cons]
      have h1 := h (n - (k + 1)) (by omega)
      cases hf : f (n - (k + 1)) with
      | none =>
        rw [hf] at h1
        rw [loopO_in (s' := g (n - (k + 1) + 1)) h1, show n - (k + 1) + 1 = n - k by omega]
        exact ih (by omega)
      | some y => rw [hf] at h1; exact loopO_out h1
  have := key n (Nat.le_refl _)
  rwa [Nat.sub_self, ← List.range_eq_range'] at this
theorem loopO_inv {S X : Type} {body : S → Option (S ⊕ X)} (I : S → Prop) (m : S → Nat) (Q : X → Prop) (h : ∀ s, I s → (∃ s', body s = some (.inl s') ∧ I s' ∧ m s' < m s) ∨ ∃ x, body s = some (.inr x) ∧ Q x) {s : S} (h0 : I s) : ∃ x, loopO body s = some x ∧ Q x := by
  generalize hk : m s = k
  induction k using Nat.strongRecOn generalizing s with
  | _ k ih =>
    rcases h s h0 with ⟨s', h1, h2, h3⟩ | ⟨x, h1, h2⟩
    · obtain ⟨x, k1, k2⟩ := ih (m s') (hk ▸ h3) h2 rfl
      exact ⟨x, by rw [loopO_in h1]; exact k1, k2⟩
    · exact ⟨x, loopO_out h1, h2⟩
/-- A loop that goes through a list. -/
theorem loopO_foldl {α σ X : Type} (l : List α) (f : σ → α → σ) (fin : σ → X) {body : σ × Int → Option ((σ × Int) ⊕ X)} (h1 : ∀ (s : σ) (i : Nat) (hi : i < l.length), body (s, (i : Int)) = some (.inl (f s l[i], ((i + 1 : Nat) : Int)))) (h2 : ∀ s, body (s, (l.length : Int)) = some (.inr (fin s))) (s0 : σ) : loopO body (s0, 0) = some (fin (l.foldl f s0)) := by
  have := loopO_up (body := body) (fun i => ((l.take i).foldl f s0, (i : Int))) l.length (x := fin (l.foldl f s0)) (fun i hi => by
    rw [h1 _ i hi, List.take_succ_eq_append_getElem hi, List.foldl_append]; rfl) (by rw [List.take_length]; exact h2 _)
  simpa using this
theorem loopO_foldl' {α σ X : Type} (l : List α) (f : σ → α → σ) (fin : σ → X) {body : Int × σ → Option ((Int × σ) ⊕ X)} (h1 : ∀ (s : σ) (i : Nat) (hi : i < l.length), body ((i : Int), s) = some (.inl (((i + 1 : Nat) : Int), f s l[i]))) (h2 : ∀ s, body ((l.length : Int), s) = some (.inr (fin s))) (s0 : σ) : loopO body (0, s0) = some (fin (l.foldl f s0)) := by
  have := loopO_up (body := body) (fun i => ((i : Int), (l.take i).foldl f s0)) l.length (x := fin (l.foldl f s0)) (fun i hi => by
    rw [h1 _ i hi, List.take_succ_eq_append_getElem hi, List.foldl_append]; rfl) (by rw [List.take_length]; exact h2 _)
  simpa using this
/-- A number of rounds. -/
theorem loopO_iter {σ X : Type} (n : Nat) (f : Nat → σ → σ) (fin : σ → X) {body : σ × Int → Option ((σ × Int) ⊕ X)} (h1 : ∀ (s : σ) (i : Nat), i < n → body (s, (i : Int)) = some (.inl (f i s, ((i + 1 : Nat) : Int)))) (h2 : ∀ s, body (s, (n : Int)) = some (.inr (fin s))) (s0 : σ) : loopO body (s0, 0) = some (fin ((List.range n).foldl (fun s i => f i s) s0)) := by
  have := loopO_up (body := body) (fun i => ((List.range i).foldl (fun s i => f i s) s0, (i : Int))) n (x := fin ((List.range n).foldl (fun s i => f i s) s0)) (fun i hi => by
    rw [h1 _ i hi, List.range_succ, List.foldl_append]; rfl) (h2 _)
  simpa using this

theorem ix_nat {α : Type} {l : List α} {i : Nat} (h : i < l.length) : ix l (i : Int) = some l[i] := by
  unfold ix
  rw [if_pos (by omega)]
  simp [h]
theorem ix_get {α : Type} (l : List α) (i : Nat) : ix l (i : Int) = l[i]? := by
  unfold ix
  rw [if_pos (by omega)]
  simp
theorem ix_none {α : Type} {l : List α} {i : Int} (h : i < 0 ∨ (l.length : Int) ≤ i) : ix l i = none := by
  unfold ix
  split
  · rw [List.getElem?_eq_none]; omega
  · rfl
theorem ixA_nat {α : Type} {l : List α} {n i : Nat} (hn : i < n) (h : i < l.length) : ixA n l (i : Int) = some l[i] := by
  unfold ixA
  rw [if_pos ⟨by omega, by omega⟩]
  simp [h]
theorem w64_nat {i : Nat} (h : i < 9223372036854775807) : w64 ((i : Int) + 1) = ((i + 1 : Nat) : Int) := by
  rw [w64_eq (by omega) (by omega)]; omega
theorem whole_eq {α : Type} {n : Nat} {l : List α} (h : l.length = n) : whole n l = some l := by simp [whole, h]
theorem stW_eq {α : Type} {n : Nat} {l y : List α} (h : l.length = n) (h2 : y.length = n) : stW n l y = some y := by simp [stW, whole, h, h2]
theorem app_eq {α : Type} {b : Nat} {l m : List α} (h : (l.length + m.length) * b ≤ 140737488355328) : app b l m = some (l ++ m) := by simp [app, h]
theorem cutTo_eq {α : Type} {l : List α} {n : Nat} (h : n ≤ l.length) : cutTo l (n : Int) = some (l.take n) := by
  unfold cutTo
  rw [if_pos ⟨by omega, by omega⟩]; simp
theorem cutFrom_eq {α : Type} {l : List α} {n : Nat} (h : n ≤ l.length) : cutFrom l (n : Int) = some (l.drop n) := by
  unfold cutFrom
  rw [if_pos ⟨by omega, by omega⟩]; simp
theorem cutO_eq {α : Type} {l : List α} {n m : Nat} (h : n ≤ m) (h2 : m ≤ l.length) : cutO l (n : Int) (m : Int) = some ((l.take m).drop n) := by
  unfold cutO
  rw [if_pos ⟨by omega, by omega, by omega⟩]; simp
theorem sc_eq {y : Int} (h : 0 ≤ y) : sc y = some y.toNat := by
  unfold sc; rw [if_neg (by omega)]
theorem dv_eq {y : Int} (h : y ≠ 0) : dv y = some y := by unfold dv; rw [if_neg h]
theorem dvU_eq {w : Nat} {y : BitVec w} (h : y ≠ 0#w) : dvU y = some y := by unfold dvU; rw [if_neg h]
theorem eqA_eq {α : Type} [DecidableEq α] {n : Nat} {x y : List α} (h : x.length = n) (h2 : y.length = n) : eqA n x y = some (x == y) := by simp [eqA, h, h2]
theorem map_len_foldl {α σ : Type} (P : σ → Prop) (f : σ → α → σ) (h : ∀ s a, P s → P (f s a)) : ∀ (l : List α) (s : σ), P s → P (l.foldl f s)
  | [], s, hs => hs
  | a :: l, s, hs => map_len_foldl P f h l _ (h s a hs)
end Go.Va
namespace Go.Va
open Go
set_option linter.unusedVariables false
set_option linter.unusedSimpArgs false
/-- One bit of a csum. -/
def cstep (n : BitVec 32) : BitVec 32 := if n &&& 1#32 = 1#32 then n >>> 1 ^^^ 3988292384#32 else n >>> 1
def csteps : Nat → BitVec 32 → BitVec 32
  | 0, n => n
  | k + 1, n => cstep (csteps k n)
def ccol (c : BitVec 8) : BitVec 32 := csteps 8 (c.setWidth 32)
def cmore1 (n : BitVec 32) (c : BitVec 8) : BitVec 32 := n >>> 8 ^^^ ccol (n.setWidth 8 ^^^ c)
def cmore (s : BitVec 32) (b : List (BitVec 8)) : BitVec 32 := ~~~ (b.foldl cmore1 (~~~ s))
def csum (b : List (BitVec 8)) : BitVec 32 := cmore 0#32 b
def cfour (n : BitVec 32) : List (BitVec 8) := [n.setWidth 8, (n >>> 8).setWidth 8, (n >>> 16).setWidth 8, (n >>> 24).setWidth 8]
def cseal (b : List (BitVec 8)) : List (BitVec 8) := b ++ cfour (csum b)
def cfits (b : List (BitVec 8)) : Bool := decide (4 ≤ b.length) && decide (cfour (csum (b.take (b.length - 4))) = b.drop (b.length - 4))
/-- One bit, as the document has it. -/
def rbit (c : BitVec 8) (k : Nat) (n : BitVec 32) : BitVec 32 := if (c >>> k).setWidth 32 % 2#32 = n % 2#32 then n / 2#32 else n / 2#32 ^^^ 3988292384#32
def rbits (c : BitVec 8) (n : BitVec 32) : Nat → BitVec 32
  | 0 => n
  | k + 1 => rbit c k (rbits c n k)
def rbyte (n : BitVec 32) (c : BitVec 8) : BitVec 32 := rbits c n 8
def rsum (b : List (BitVec 8)) : BitVec 32 := 4294967295#32 - b.foldl rbyte 4294967295#32
def rdiv (n : BitVec 32) : Nat → BitVec 32
  | 0 => n
  | k + 1 => rdiv n k / 256#32
def rfour (n : BitVec 32) : Nat → List (BitVec 8)
  | 0 => []
  | k + 1 => rfour n k ++ [(rdiv n k % 256#32).setWidth 8]
theorem rfour_len (n : BitVec 32) : ∀ k, (rfour n k).length = k
  | 0 => rfl
  | k + 1 => by simp [rfour, rfour_len n k]
def rseal (b : List (BitVec 8)) : List (BitVec 8) := b ++ rfour (rsum b) 4
def rfits (b : List (BitVec 8)) : Bool := decide (4 ≤ b.length) && decide (rseal (b.take (b.length - 4)) = b)

theorem shr_shr (n : BitVec 32) (k : Nat) : n >>> k >>> 1 = n >>> (k + 1) := by rw [BitVec.shiftRight_add]
theorem crc_and_one (n : BitVec 32) : (n &&& 1#32 = 1#32) ↔ n.getLsbD 0 = true := by
  constructor
  · intro h
    have := congrArg (fun x => x.getLsbD 0) h
    simpa using this
  · intro h
    apply BitVec.eq_of_getLsbD_eq
    intro i hi
    by_cases h0 : i = 0
    · subst h0; simpa using h
    · rw [BitVec.getLsbD_and, BitVec.getLsbD_one]
      simp [h0]
theorem crc_step_eq (n : BitVec 32) : cstep n = n >>> 1 ^^^ (if n.getLsbD 0 = true then 3988292384#32 else 0#32) := by
  unfold cstep
  by_cases h : n.getLsbD 0 = true
  · rw [if_pos ((crc_and_one n).2 h), if_pos h]
  · rw [if_neg (fun hh => h ((crc_and_one n).1 hh)), if_neg h, BitVec.xor_zero]
theorem crc_step_xor (a b : BitVec 32) : cstep (a ^^^ b) = cstep a ^^^ cstep b := by
  rw [crc_step_eq, crc_step_eq, crc_step_eq, BitVec.getLsbD_xor, BitVec.ushiftRight_xor_distrib]
  generalize a >>> 1 = x
  generalize b >>> 1 = y
  cases a.getLsbD 0 <;> cases b.getLsbD 0
  · simp
  · simp [BitVec.xor_assoc]
  · simp only [Bool.xor_false, if_true, Bool.false_eq_true, if_false, BitVec.xor_zero]
    rw [BitVec.xor_assoc, BitVec.xor_comm y, BitVec.xor_assoc]
  · simp only [Bool.xor_self, if_true, Bool.false_eq_true, if_false, BitVec.xor_zero]
    rw [BitVec.xor_assoc, ← BitVec.xor_assoc (3988292384#32), BitVec.xor_comm (3988292384#32) y, BitVec.xor_assoc y, BitVec.xor_self, BitVec.xor_zero]
theorem crc_steps_xor (a b : BitVec 32) : ∀ k, csteps k (a ^^^ b) = csteps k a ^^^ csteps k b
  | 0 => rfl
  | k + 1 => by rw [csteps, crc_steps_xor a b k, crc_step_xor]; rfl
theorem crc_step_even (n : BitVec 32) (h : n.getLsbD 0 = false) : cstep n = n >>> 1 := by
  rw [crc_step_eq, h]; simp
theorem crc_steps_even (z : BitVec 32) : ∀ k, (∀ i, i < k → z.getLsbD i = false) → csteps k z = z >>> k
  | 0, _ => by simp [csteps]
  | k + 1, h => by
    rw [csteps, crc_steps_even z k (fun i hi => h i (by omega)), crc_step_even _ (by rw [BitVec.getLsbD_ushiftRight]; exact h _ (by omega)), shr_shr]
theorem crc_steps_byte (n : BitVec 32) (c : BitVec 8) : csteps 8 (n ^^^ c.setWidth 32) = cmore1 n c := by
  have h : n ^^^ c.setWidth 32 = (n >>> 8) <<< 8 ^^^ (n.setWidth 8 ^^^ c).setWidth 32 := by
    apply BitVec.eq_of_getLsbD_eq
    intro i hi
    simp only [BitVec.getLsbD_xor, BitVec.getLsbD_shiftLeft, BitVec.getLsbD_ushiftRight, BitVec.getLsbD_setWidth]
    by_cases h8 : i < 8
    · simp [h8, hi]
    · have e : 8 + (i - 8) = i := by omega
      simp [h8, hi, e, BitVec.getLsbD_of_ge c i (by omega)]
  rw [h, crc_steps_xor, crc_steps_even]
  · unfold cmore1 ccol
    congr 1
    apply BitVec.eq_of_getLsbD_eq
    intro i hi
    simp only [BitVec.getLsbD_shiftLeft, BitVec.getLsbD_ushiftRight]
    by_cases h32 : 8 + i < 32
    · simp [h32]
    · simp [h32, BitVec.getLsbD_of_ge n (8 + i) (by omega)]
  · intro i hi
    simp [BitVec.getLsbD_shiftLeft, hi]
theorem chalf (n : BitVec 32) : n / 2#32 = n >>> 1 := by
  apply BitVec.eq_of_toNat_eq
  rw [BitVec.toNat_udiv, BitVec.toNat_ushiftRight, Nat.shiftRight_eq_div_pow]
  rfl
theorem clow (n m : BitVec 32) : n % 2#32 = m % 2#32 ↔ n.getLsbD 0 = m.getLsbD 0 := by
  have e (x : BitVec 32) : x.getLsbD 0 = decide (x.toNat % 2 = 1) := by
    rw [BitVec.getLsbD, Nat.testBit_zero]
  rw [e, e]
  constructor
  · intro h
    have := congrArg BitVec.toNat h
    simp only [BitVec.toNat_umod, BitVec.toNat_ofNat] at this
    have h2 : n.toNat % 2 = m.toNat % 2 := this
    rw [h2]
  · intro h
    apply BitVec.eq_of_toNat_eq
    simp only [BitVec.toNat_umod, BitVec.toNat_ofNat]
    show n.toNat % 2 = m.toNat % 2
    rw [decide_eq_decide] at h
    omega
/-- One bit, as a cstep. -/
theorem rbit_eq (c : BitVec 8) (k : Nat) (n : BitVec 32) : rbit c k n = n >>> 1 ^^^ (if (c.getLsbD k != n.getLsbD 0) = true then 3988292384#32 else 0#32) := by
  unfold rbit
  have hb : ((c >>> k).setWidth 32).getLsbD 0 = c.getLsbD k := by
    simp
    intro h
    rcases Nat.lt_or_ge k 32 with h1 | h1
    · exact h1
    · rw [BitVec.getLsbD_of_ge c k (by omega)] at h; cases h
  by_cases h : c.getLsbD k = n.getLsbD 0
  · rw [if_pos ((clow _ _).2 (by rw [hb]; exact h)), chalf, h]
    simp
  · rw [if_neg (fun hh => h (by rw [← hb]; exact (clow _ _).1 hh)), chalf]
    have : (c.getLsbD k != n.getLsbD 0) = true := by simpa using h
    rw [this]; simp
theorem rbits_eq (c : BitVec 8) (n : BitVec 32) : ∀ k, csteps k (n ^^^ c.setWidth 32) = rbits c n k ^^^ (c.setWidth 32) >>> k
  | 0 => by simp [csteps, rbits]
  | k + 1 => by
    have hc : (c.setWidth 32 >>> k).getLsbD 0 = c.getLsbD k := by
      simp only [BitVec.getLsbD_ushiftRight, BitVec.getLsbD_setWidth, Nat.add_zero]
      by_cases h : k < 32
      · simp [h]
      · simp [h, BitVec.getLsbD_of_ge c k (by omega)]
    rw [csteps, rbits_eq c n k, rbits, crc_step_eq, rbit_eq, BitVec.getLsbD_xor, hc, BitVec.ushiftRight_xor_distrib, shr_shr]
    generalize rbits c n k >>> 1 = x
    generalize c.setWidth 32 >>> (k + 1) = y
    generalize rbits c n k = r
    have : (r.getLsbD 0 ^^ c.getLsbD k) = (c.getLsbD k != r.getLsbD 0) := by cases r.getLsbD 0 <;> cases c.getLsbD k <;> rfl
    rw [this, BitVec.xor_assoc, BitVec.xor_assoc]
    congr 1
    exact BitVec.xor_comm _ _
theorem rbyte_eq (n : BitVec 32) (c : BitVec 8) : rbyte n c = cmore1 n c := by
  rw [← crc_steps_byte, rbits_eq]
  have : (c.setWidth 32) >>> 8 = 0#32 := by
    apply BitVec.eq_of_getLsbD_eq
    intro i hi
    simp [BitVec.getLsbD_of_ge c (8 + i) (by omega)]
  rw [this, BitVec.xor_zero]
  rfl
theorem ones_sub (x : BitVec 32) : 4294967295#32 - x = ~~~ x := by
  apply BitVec.eq_of_toNat_eq
  have := x.isLt
  rw [BitVec.toNat_sub, BitVec.toNat_not]
  simp only [BitVec.toNat_ofNat]
  omega
theorem rsum_eq (b : List (BitVec 8)) : rsum b = csum b := by
  unfold rsum csum cmore
  rw [ones_sub]
  congr 1
  rw [show (~~~ (0#32)) = 4294967295#32 by decide]
  congr 1
  funext n c
  exact rbyte_eq n c
theorem crc_more_sum (a b : List (BitVec 8)) : cmore (csum a) b = csum (a ++ b) := by
  unfold csum cmore
  rw [BitVec.not_not, List.foldl_append]
theorem low8 (n : BitVec 32) : (n % 256#32).setWidth 8 = n.setWidth 8 := by
  apply BitVec.eq_of_toNat_eq
  simp only [BitVec.toNat_setWidth, BitVec.toNat_umod, BitVec.toNat_ofNat]
  show n.toNat % 256 % 256 = n.toNat % 256
  omega
theorem by8 (n : BitVec 32) : n / 256#32 = n >>> 8 := by
  apply BitVec.eq_of_toNat_eq
  rw [BitVec.toNat_udiv, BitVec.toNat_ushiftRight, Nat.shiftRight_eq_div_pow]
  rfl
theorem rfour_eq (n : BitVec 32) : rfour n 4 = cfour n := by
  simp only [rfour, rdiv, cfour, low8, by8, List.nil_append, List.cons_append, ← BitVec.shiftRight_add]
theorem crc_seal_eq (b : List (BitVec 8)) : cseal b = rseal b := by
  rw [cseal, rseal, rfour_eq, rsum_eq]
theorem crc_fits_eq (b : List (BitVec 8)) : cfits b = rfits b := by
  unfold cfits rfits
  by_cases h : 4 ≤ b.length
  · rw [decide_eq_true h, Bool.true_and, Bool.true_and, decide_eq_decide, ← crc_seal_eq, cseal]
    constructor
    · intro e
      rw [e, List.take_append_drop]
    · intro e
      have := congrArg (List.drop (b.length - 4)) e
      rw [List.drop_append_of_le_length (by simp), List.drop_of_length_le (by simp), List.nil_append] at this
      exact this
  · rw [decide_eq_false h]; rfl
theorem cdigit (n : BitVec 32) : n = (n.setWidth 8).setWidth 32 + (n >>> 8) * 256#32 := by
  apply BitVec.eq_of_toNat_eq
  have := n.isLt
  rw [BitVec.toNat_add, BitVec.toNat_mul, BitVec.toNat_setWidth, BitVec.toNat_setWidth, BitVec.toNat_ushiftRight, Nat.shiftRight_eq_div_pow]
  show n.toNat = (n.toNat % 256 % 4294967296 + n.toNat / 256 * 256 % 4294967296) % 4294967296
  omega
theorem ctop (n : BitVec 32) : n >>> 24 = ((n >>> 24).setWidth 8).setWidth 32 := by
  apply BitVec.eq_of_getLsbD_eq
  intro i hi
  simp only [BitVec.getLsbD_setWidth, BitVec.getLsbD_ushiftRight, hi, decide_true, Bool.true_and]
  by_cases h : i < 8
  · simp [h]
  · simp [h, BitVec.getLsbD_of_ge n (24 + i) (by omega)]
theorem crc_four_back (n : BitVec 32) : (n.setWidth 8).setWidth 32 + ((n >>> 8).setWidth 8).setWidth 32 * 256#32 + ((n >>> 16).setWidth 8).setWidth 32 * 65536#32 + ((n >>> 24).setWidth 8).setWidth 32 * 16777216#32 = n := by
  have h1 := cdigit n
  have h2 := cdigit (n >>> 8)
  have h3 := cdigit (n >>> 16)
  rw [← BitVec.shiftRight_add] at h2 h3
  rw [← ctop n]
  rw [show (65536#32 : BitVec 32) = 256#32 * 256#32 by decide, show (16777216#32 : BitVec 32) = 256#32 * 256#32 * 256#32 by decide]
  generalize (n.setWidth 8).setWidth 32 = a at *
  generalize ((n >>> 8).setWidth 8).setWidth 32 = b at *
  generalize ((n >>> 16).setWidth 8).setWidth 32 = c at *
  generalize n >>> 24 = d at *
  generalize n >>> 16 = e at *
  generalize n >>> 8 = f at *
  rw [h1, h2, h3]
  simp only [BitVec.add_mul, BitVec.mul_assoc, BitVec.add_assoc]
/-! three rows together -/
def xor3 (a b c : List (BitVec 8)) : List (BitVec 8) := (List.zip a (List.zip b c)).map fun p => p.1 ^^^ p.2.1 ^^^ p.2.2
theorem crc_column_xor (x y : BitVec 8) : ccol (x ^^^ y) = ccol x ^^^ ccol y := by
  unfold ccol
  rw [← crc_steps_xor]
  congr 1
theorem crc_more1_xor (n m : BitVec 32) (x y : BitVec 8) : cmore1 (n ^^^ m) (x ^^^ y) = cmore1 n x ^^^ cmore1 m y := by
  unfold cmore1
  have e : (n ^^^ m).setWidth 8 ^^^ (x ^^^ y) = (n.setWidth 8 ^^^ x) ^^^ (m.setWidth 8 ^^^ y) := by
    have : (n ^^^ m).setWidth 8 = n.setWidth 8 ^^^ m.setWidth 8 := by
      apply BitVec.eq_of_getLsbD_eq
      intro i hi
      simp [hi]
    rw [this]
    ac_rfl
  rw [e, crc_column_xor, BitVec.ushiftRight_xor_distrib]
  ac_rfl
theorem crc_fold_xor : ∀ (a b c : List (BitVec 8)) (n m k : BitVec 32), a.length = b.length → a.length = c.length → (xor3 a b c).foldl cmore1 (n ^^^ m ^^^ k) = a.foldl cmore1 n ^^^ b.foldl cmore1 m ^^^ c.foldl cmore1 k
  | [], [], [], n, m, k, _, _ => rfl
  | x :: a, y :: b, z :: c, n, m, k, h1, h2 => by
    have ih := crc_fold_xor a b c (cmore1 n x) (cmore1 m y) (cmore1 k z) (by simpa using h1) (by simpa using h2)
    show (xor3 a b c).foldl cmore1 (cmore1 (n ^^^ m ^^^ k) (x ^^^ y ^^^ z)) = _
    rw [crc_more1_xor, crc_more1_xor, ih]
    rfl
  | [], _ :: _, _, _, _, _, h1, _ => by simp at h1
  | [], [], _ :: _, _, _, _, _, h2 => by simp at h2
  | _ :: _, [], _, _, _, _, h1, _ => by simp at h1
  | _ :: _, _ :: _, [], _, _, _, _, h2 => by simp at h2
theorem crc_sum_xor3 (a b c : List (BitVec 8)) (h1 : a.length = b.length) (h2 : a.length = c.length) : csum a ^^^ csum b ^^^ csum c = csum (xor3 a b c) := by
  unfold csum cmore
  have := crc_fold_xor a b c (~~~ 0#32) (~~~ 0#32) (~~~ 0#32) h1 h2
  rw [show ((~~~ 0#32) ^^^ (~~~ 0#32) ^^^ (~~~ 0#32)) = (~~~ 0#32) by decide] at this
  rw [this]
  generalize List.foldl cmore1 (~~~ 0#32) a = x
  generalize List.foldl cmore1 (~~~ 0#32) b = y
  generalize List.foldl cmore1 (~~~ 0#32) c = z
  apply BitVec.eq_of_getLsbD_eq
  intro i hi
  simp [hi]

/-! ### bit by bit; bits side by side that are turned -/
def bstep (n : BitVec 32) (b : Bool) : BitVec 32 := cstep (n ^^^ (if b = true then 1#32 else 0#32))
theorem shift_split (z : BitVec 32) (k : Nat) : z >>> k = (if z.getLsbD k = true then 1#32 else 0#32) ^^^ (z >>> (k + 1)) <<< 1 := by
  apply BitVec.eq_of_getLsbD_eq
  intro i hi
  simp only [BitVec.getLsbD_xor, BitVec.getLsbD_ushiftRight, BitVec.getLsbD_shiftLeft]
  by_cases h0 : i = 0
  · subst h0
    cases z.getLsbD k <;> simp
  · have e : k + 1 + (i - 1) = k + i := by omega
    have h1 : ¬ i < 1 := by omega
    rw [e]
    have : ((if z.getLsbD k = true then 1#32 else 0#32) : BitVec 32).getLsbD i = false := by
      split <;> simp [BitVec.getLsbD_one, h0]
    rw [this]
    simp [h1, hi]
theorem csteps_bits (n z : BitVec 32) : ∀ k, csteps k (n ^^^ z) = ((List.range k).map z.getLsbD).foldl bstep n ^^^ z >>> k
  | 0 => by simp [csteps]
  | k + 1 => by
    rw [csteps, csteps_bits n z k, List.range_succ, List.map_append, List.foldl_append]
    simp only [List.map_cons, List.map_nil, List.foldl_cons, List.foldl_nil]
    generalize ((List.range k).map z.getLsbD).foldl bstep n = f
    rw [shift_split z k, ← BitVec.xor_assoc, crc_step_xor]
    unfold bstep
    congr 1
    rw [crc_step_even _ (by simp [BitVec.getLsbD_shiftLeft])]
    apply BitVec.eq_of_getLsbD_eq
    intro i hi
    simp only [BitVec.getLsbD_ushiftRight, BitVec.getLsbD_shiftLeft]
    by_cases h : 1 + i < 32
    · have e : 1 + i - 1 = i := by omega
      have h1 : ¬ (1 + i < 1) := by omega
      simp [h, e, h1]
    · have : i = 31 := by omega
      subst this
      simp [BitVec.getLsbD_of_ge z (k + 1 + 31) (by omega)]
def bits8 (c : BitVec 8) : List Bool := (List.range 8).map c.getLsbD
def bits32 (w : BitVec 32) : List Bool := (List.range 32).map w.getLsbD
theorem more1_bits (n : BitVec 32) (c : BitVec 8) : cmore1 n c = (bits8 c).foldl bstep n := by
  rw [← crc_steps_byte, csteps_bits]
  have : (c.setWidth 32) >>> 8 = 0#32 := by
    apply BitVec.eq_of_getLsbD_eq
    intro i hi
    simp [BitVec.getLsbD_of_ge c (8 + i) (by omega)]
  rw [this, BitVec.xor_zero]
  have e : (List.range 8).map (c.setWidth 32 : BitVec 32).getLsbD = bits8 c := by
    unfold bits8
    apply List.map_congr_left
    intro i hi
    have : i < 8 := by simpa using hi
    simp [show i < 32 by omega]
  rw [e]
theorem word_bits (n w : BitVec 32) : csteps 32 (n ^^^ w) = (bits32 w).foldl bstep n := by
  rw [csteps_bits]
  have : w >>> 32 = 0#32 := by
    apply BitVec.eq_of_getLsbD_eq
    intro i hi
    simp [BitVec.getLsbD_of_ge w (32 + i) (by omega)]
  rw [this, BitVec.xor_zero]; rfl
theorem fold_bits : ∀ (b : List (BitVec 8)) (n : BitVec 32), b.foldl cmore1 n = (b.flatMap bits8).foldl bstep n
  | [], n => rfl
  | c :: b, n => by
    rw [List.foldl_cons, fold_bits b, List.flatMap_cons, List.foldl_append, more1_bits]
theorem four_bits (n : BitVec 32) : (cfour n).flatMap bits8 = bits32 n := by
  unfold cfour bits32 bits8
  simp only [List.flatMap_cons, List.flatMap_nil, List.append_nil]
  rw [show List.range 32 = List.range 8 ++ ((List.range 8).map (8 + ·) ++ ((List.range 8).map (16 + ·) ++ (List.range 8).map (24 + ·))) from by decide]
  simp only [List.map_append, List.map_map]
  have key : ∀ k : Nat, ((List.range 8).map ((n >>> k).setWidth 8 : BitVec 8).getLsbD) = (List.range 8).map (n.getLsbD ∘ (k + ·)) := by
    intro k
    apply List.map_congr_left
    intro i hi
    have : i < 8 := by simpa using hi
    simp [this]
  have k0 : ((List.range 8).map (n.setWidth 8 : BitVec 8).getLsbD) = (List.range 8).map n.getLsbD := by
    apply List.map_congr_left
    intro i hi
    have : i < 8 := by simpa using hi
    simp [this]
  rw [k0, key 8, key 16, key 24]
theorem bstep_xor (n m : BitVec 32) (a b : Bool) : bstep (n ^^^ m) (a ^^ b) = bstep n a ^^^ bstep m b := by
  unfold bstep
  rw [← crc_step_xor]
  congr 1
  cases a <;> cases b <;> simp only [Bool.xor_false, Bool.false_xor, Bool.xor_self, Bool.xor_true, Bool.not_false, if_true, Bool.false_eq_true, if_false, BitVec.xor_zero]
  all_goals first
    | ac_rfl
    | rw [BitVec.xor_assoc n 1#32, ← BitVec.xor_assoc 1#32 m, BitVec.xor_comm 1#32 m, BitVec.xor_assoc m, BitVec.xor_self, BitVec.xor_zero]
theorem bfold_xor : ∀ (a b : List Bool) (n m : BitVec 32), a.length = b.length → (List.zipWith (· ^^ ·) a b).foldl bstep (n ^^^ m) = a.foldl bstep n ^^^ b.foldl bstep m
  | [], [], _, _, _ => rfl
  | x :: a, y :: b, n, m, h => by
    simp only [List.zipWith_cons_cons, List.foldl_cons, bstep_xor]
    exact bfold_xor a b _ _ (by simpa using h)
  | [], _ :: _, _, _, h => by simp at h
  | _ :: _, [], _, _, h => by simp at h
theorem cstep_inj {n : BitVec 32} (h : cstep n = 0#32) : n = 0#32 := by
  rw [crc_step_eq] at h
  by_cases h0 : n.getLsbD 0 = true
  · rw [if_pos h0] at h
    have := congrArg (fun x => x.getLsbD 31) h
    simp [BitVec.getLsbD_of_ge n 32 (by omega)] at this
  · rw [if_neg h0, BitVec.xor_zero] at h
    apply BitVec.eq_of_getLsbD_eq
    intro i hi
    rcases Nat.eq_zero_or_pos i with hz | hz
    · subst hz; simpa using h0
    · have := congrArg (fun x => x.getLsbD (i - 1)) h
      simp only [BitVec.getLsbD_ushiftRight] at this
      rw [show 1 + (i - 1) = i by omega] at this
      simpa using this
theorem csteps_inj : ∀ {k : Nat} {n : BitVec 32}, csteps k n = 0#32 → n = 0#32
  | 0, n, h => h
  | k + 1, n, h => csteps_inj (k := k) (cstep_inj h)
theorem bfold_zeros (n : BitVec 32) : ∀ k, (List.replicate k false).foldl bstep n = csteps k n := by
  have key : ∀ k (n : BitVec 32), csteps k (cstep n) = cstep (csteps k n) := by
    intro k
    induction k with
    | zero => intro n; rfl
    | succ k ih => intro n; rw [csteps, ih, csteps]
  intro k
  induction k generalizing n with
  | zero => rfl
  | succ k ih =>
    rw [List.replicate_succ, List.foldl_cons, ih, csteps, ← key]
    simp [bstep]
theorem csteps_zero : ∀ k, csteps k 0#32 = 0#32
  | 0 => rfl
  | k + 1 => by rw [csteps, csteps_zero k]; rfl
/-- Bits side by side that are turned are seen. -/
theorem burst {k m : Nat} {w : BitVec 32} (h : (List.replicate k false ++ (bits32 w ++ List.replicate m false)).foldl bstep 0#32 = 0#32) : w = 0#32 := by
  rw [List.foldl_append, List.foldl_append, bfold_zeros 0#32 k, csteps_zero, ← word_bits, bfold_zeros, BitVec.zero_xor] at h
  exact csteps_inj (csteps_inj h)
/-- What bytes with their sum behind come to. -/
theorem sealed_fold (b : List (BitVec 8)) : (b ++ cfour (csum b)).foldl cmore1 (~~~ 0#32) = csteps 32 (~~~ 0#32) := by
  rw [List.foldl_append, fold_bits (cfour _), four_bits, ← word_bits]
  congr 1
  unfold csum cmore
  generalize b.foldl cmore1 (~~~ 0#32) = x
  apply BitVec.eq_of_getLsbD_eq
  intro i hi
  simp only [BitVec.getLsbD_xor, BitVec.getLsbD_not, hi, decide_true, Bool.true_and, BitVec.getLsbD_zero]
  cases x.getLsbD i <;> rfl
theorem fits_fold {s : List (BitVec 8)} (h : cfits s = true) : s.foldl cmore1 (~~~ 0#32) = csteps 32 (~~~ 0#32) := by
  unfold cfits at h
  simp only [Bool.and_eq_true, decide_eq_true_eq] at h
  have : s = s.take (s.length - 4) ++ cfour (csum (s.take (s.length - 4))) := by rw [h.2, List.take_append_drop]
  rw [this]
  exact sealed_fold _
def bitAt (s : List (BitVec 8)) (p : Nat) : Bool := (s.getD (p / 8) 0#8).getLsbD (p % 8)
theorem bits_at : ∀ (s : List (BitVec 8)), s.flatMap bits8 = (List.range (8 * s.length)).map (bitAt s)
  | [] => rfl
  | c :: s => by
    rw [List.flatMap_cons, bits_at s, List.length_cons, show 8 * (s.length + 1) = 8 + 8 * s.length by omega, List.range_add, List.map_append, List.map_map]
    have e1 : bits8 c = (List.range 8).map (bitAt (c :: s)) := by
      unfold bits8
      apply List.map_congr_left
      intro i hi
      have : i < 8 := by simpa using hi
      simp [bitAt, Nat.div_eq_of_lt this, Nat.mod_eq_of_lt this]
    have e2 : (List.range (8 * s.length)).map (bitAt s) = (List.range (8 * s.length)).map (bitAt (c :: s) ∘ fun x => 8 + x) := by
      apply List.map_congr_left
      intro i hi
      simp only [bitAt, Function.comp]
      rw [show (8 + i) / 8 = i / 8 + 1 by omega, show (8 + i) % 8 = i % 8 by omega]
      rfl
    rw [e1, e2]
def turned (k : Nat) (w : BitVec 32) (p : Nat) : Bool := decide (k ≤ p ∧ p < k + 32) && w.getLsbD (p - k)
theorem turned_list {k n : Nat} (w : BitVec 32) (h : k + 32 ≤ n) : (List.range n).map (turned k w) = List.replicate k false ++ (bits32 w ++ List.replicate (n - k - 32) false) := by
  apply List.ext_getElem?
  intro i
  simp only [List.getElem?_map, List.getElem?_append, List.getElem?_replicate, List.length_replicate, bits32, List.length_map, List.length_range]
  by_cases h1 : i < k
  · rw [if_pos h1, List.getElem?_range (by omega)]
    simp [turned, h1, show ¬ k ≤ i by omega]
  · rw [if_neg h1]
    by_cases h2 : i - k < 32
    · rw [if_pos h2, List.getElem?_range (by omega), List.getElem?_range h2]
      simp [turned, show k ≤ i by omega, show i < k + 32 by omega]
    · rw [if_neg h2]
      by_cases h3 : i < n
      · rw [List.getElem?_range h3, if_pos (by omega)]
        simp [turned, show ¬ i < k + 32 by omega]
      · rw [if_neg (by omega), List.getElem?_eq_none (by simp; omega)]; rfl
/-- Spoilt bytes are told. -/
theorem tells {s t : List (BitVec 8)} {k : Nat} {w : BitVec 32} (hw : w ≠ 0#32) (hl : t.length = s.length) (hk : k + 32 ≤ 8 * s.length) (hs : cfits s = true) (ht : ∀ p, p < 8 * s.length → bitAt t p = (bitAt s p ^^ turned k w p)) : cfits t = false := by
  cases hf : cfits t with
  | false => rfl
  | true =>
    exfalso
    apply hw
    have e1 := fits_fold hs
    have e2 := fits_fold hf
    rw [fold_bits, bits_at] at e1 e2
    rw [hl] at e2
    have e3 : (List.range (8 * s.length)).map (bitAt t) = List.zipWith (· ^^ ·) ((List.range (8 * s.length)).map (bitAt s)) ((List.range (8 * s.length)).map (turned k w)) := by
      rw [List.zipWith_map, List.zipWith_self]
      exact List.map_congr_left (fun p hp => ht p (by simpa using hp))
    have e4 := bfold_xor ((List.range (8 * s.length)).map (bitAt s)) ((List.range (8 * s.length)).map (turned k w)) (~~~ 0#32) 0#32 (by simp)
    rw [← e3, BitVec.xor_zero, e1, e2] at e4
    have e5 : ((List.range (8 * s.length)).map (turned k w)).foldl bstep 0#32 = 0#32 := by
      generalize ((List.range (8 * s.length)).map (turned k w)).foldl bstep 0#32 = x at e4
      generalize csteps 32 (~~~ 0#32) = r at e4
      have := congrArg (r ^^^ ·) e4
      simp only [BitVec.xor_self, ← BitVec.xor_assoc, BitVec.zero_xor] at this
      exact this.symm
    rw [turned_list w hk] at e5
    exact burst e5
end Go.Va
namespace Go.Proofs.Ytiembjojiaobbaa
open Go Go.Va
set_option linter.unusedVariables false
set_option linter.unusedSimpArgs false
theorem column_eq (c : BitVec 8) : checksum_column c = some (ccol c) := by
  have k := loopO_up (body := fun s => checksum_column_b0 s.1 s.2) (fun i : Nat => (csteps i (c.setWidth 32), (i : Int))) 8 (x := ccol c) (fun i hi => by
    simp only [checksum_column_b0, lt_eq]
    rw [if_pos (decide_eq_true (by omega)), w64_nat (by omega)]
    rw [show csteps (i + 1) (c.setWidth 32) = cstep (csteps i (c.setWidth 32)) from rfl]
    unfold cstep
    by_cases h : csteps i (c.setWidth 32) &&& 1#32 = 1#32
    · rw [if_pos (by simpa using h), if_pos h]
    · rw [if_neg (by simpa using h), if_neg h]) (by
    simp only [checksum_column_b0, lt_eq]
    rw [if_neg (by simp)]
    rfl)
  have k' : checksum_column_l0 (c.setWidth 32, 0) = some (ccol c) := k
  unfold checksum_column
  simp only [lt_eq, k', Option.bind_some]
theorem more_eq (n : BitVec 32) {b : List (BitVec 8)} (hb : b.length ≤ 1000000000) : checksum_More n b = some (cmore n b) := by
  have k := loopO_up (body := fun s => checksum_More_b0 b (b.length : Int) s.1 s.2) (fun i : Nat => ((b.take i).foldl cmore1 (~~~ n), (i : Int))) b.length (x := b.foldl cmore1 (~~~ n)) (fun i hi => by
    simp only [checksum_More_b0, lt_eq]
    rw [if_pos (decide_eq_true (by omega)), ix_nat hi]
    simp only [Option.bind_some, column_eq]
    rw [w64_nat (by omega), List.take_add_one, List.getElem?_eq_getElem hi, List.foldl_append]
    rfl) (by
    simp only [checksum_More_b0, lt_eq, List.take_length]
    rw [if_neg (by rw [decide_eq_false (by omega)]; simp)])
  have k' : checksum_More_l0 b (b.length : Int) (~~~ n, 0) = some (b.foldl cmore1 (~~~ n)) := k
  unfold checksum_More
  simp only [lt_eq, k', Option.bind_some]
  rfl
theorem sum_eq {b : List (BitVec 8)} (hb : b.length ≤ 1000000000) : checksum_Sum b = some (csum b) := by
  unfold checksum_Sum
  simp only [more_eq _ hb, Option.bind_some]
  rfl
theorem four_eq (n : BitVec 32) : checksum_Four n = some (cfour n) := by
  unfold checksum_Four
  simp only [lt_eq]
  rw [stW_eq (by simp) (by simp)]
  rfl
theorem cfour_len (n : BitVec 32) : (cfour n).length = 4 := rfl
theorem cseal_len (b : List (BitVec 8)) : (cseal b).length = b.length + 4 := by simp [cseal, cfour_len]
theorem seal_eq {b : List (BitVec 8)} (hb : b.length ≤ 1000000000) : checksum_Seal b = some (cseal b) := by
  unfold checksum_Seal
  simp only [sum_eq hb, four_eq, Option.bind_some]
  rw [stW_eq (by simp) (cfour_len _)]
  simp only [Option.bind_some]
  rw [app_eq (by simp; omega), whole_eq (cfour_len _)]
  simp only [Option.bind_some, List.nil_append]
  rw [app_eq (by simp [cfour_len]; omega)]
  rfl
theorem fits_eq {b : List (BitVec 8)} (hb : b.length ≤ 1000000000) : checksum_Fits b = some (cfits b) := by
  unfold checksum_Fits cfits
  simp only [lt_eq]
  rw [w64_eq (by omega) (by omega)]
  by_cases h : 4 ≤ b.length
  · rw [if_neg (by rw [decide_eq_false (by omega)]; simp), show (b.length : Int) - 4 = ((b.length - 4 : Nat) : Int) by omega, cutTo_eq (by omega), cutFrom_eq (by omega)]
    simp only [Option.bind_some]
    rw [sum_eq (by rw [List.length_take]; omega)]
    simp only [Option.bind_some, four_eq]
    rw [show (4 : Int) = ((4 : Nat) : Int) from rfl, cutTo_eq (by rw [List.length_drop]; omega)]
    have hl : ((b.drop (b.length - 4)).take 4).length = 4 := by rw [List.length_take, List.length_drop]; omega
    simp only [Option.bind_some]
    rw [whole_eq hl]
    simp only [Option.bind_some]
    rw [eqA_eq (cfour_len _) hl]
    have ht : (b.drop (b.length - 4)).take 4 = b.drop (b.length - 4) := List.take_of_length_le (by rw [List.length_drop]; omega)
    rw [ht]
    simp only [Option.bind_some, decide_eq_true h, Bool.true_and]
    congr 1
    exact Bool.eq_iff_iff.2 (by simp)
  · rw [if_pos (decide_eq_true (by omega)), decide_eq_false h]
    rfl
end Go.Proofs.Ytiembjojiaobbaa
namespace Go.Proofs.Ytiembjojiaobbaa
open Go Go.Va
set_option linter.unusedVariables false
set_option linter.unusedSimpArgs false
theorem works03 : butterylaw03_works = some true := by
  unfold butterylaw03_works
  have h1 : csum [49#8, 50#8, 51#8, 52#8, 53#8, 54#8, 55#8, 56#8, 57#8] = 3421780262#32 := by decide +kernel
  have h2 : cfits (cseal [49#8, 50#8, 51#8, 52#8, 53#8, 54#8, 55#8, 56#8, 57#8]) = true := by decide +kernel
  have h3 : cfits [1#8, 2#8, 3#8] = false := by decide +kernel
  have h4 : cfour 258#32 = [2#8, 1#8, 0#8, 0#8] := by decide +kernel
  rw [seal_eq (by simp), sum_eq (by simp), h1]
  simp only [Option.bind_some, lt_eq, cseal_len, beq_self_eq_true, if_true]
  rw [fits_eq (by rw [cseal_len]; simp), h2, fits_eq (by simp), h3, four_eq, h4]
  rfl
/-- One bit, turned. -/
def flipAt (s : List (BitVec 8)) (p : Nat) : List (BitVec 8) := s.set (p / 8) (s.getD (p / 8) 0#8 ^^^ 1#8 <<< (p % 8))
/-- Bits, turned where a word has ones. -/
def flips (k : Nat) (w : BitVec 32) (s : List (BitVec 8)) : Nat → List (BitVec 8)
  | 0 => s
  | i + 1 => if w.getLsbD i = true then flipAt (flips k w s i) (k + i) else flips k w s i
theorem flips_len (k : Nat) (w : BitVec 32) (s : List (BitVec 8)) : ∀ i, (flips k w s i).length = s.length
  | 0 => rfl
  | i + 1 => by
    unfold flips
    split
    · unfold flipAt; rw [List.length_set, flips_len]
    · exact flips_len k w s i
theorem flipAt_bit {s : List (BitVec 8)} {q : Nat} (hq : q < 8 * s.length) (p : Nat) : bitAt (flipAt s q) p = (bitAt s p ^^ decide (p = q)) := by
  unfold bitAt flipAt
  have hq8 : q / 8 < s.length := by omega
  by_cases h : p / 8 = q / 8
  · rw [h, List.getD_eq_getElem?_getD, List.getElem?_set_self hq8]
    simp only [Option.getD_some, BitVec.getLsbD_xor]
    congr 1
    rw [BitVec.getLsbD_shiftLeft, BitVec.getLsbD_one]
    have h1 : p % 8 < 8 := Nat.mod_lt _ (by omega)
    by_cases h2 : p = q
    · subst h2; simp [h1]
    · rw [decide_eq_false h2]
      have h3 : p % 8 ≠ q % 8 := by omega
      by_cases h4 : p % 8 < q % 8
      · simp [h4]
      · simp [h4, h1]; omega
  · rw [List.getD_eq_getElem?_getD, List.getElem?_set_ne (Ne.symm h), ← List.getD_eq_getElem?_getD, decide_eq_false (by rintro rfl; exact h rfl)]
    simp
theorem flips_bit {k : Nat} {w : BitVec 32} {s : List (BitVec 8)} (hk : k + 32 ≤ 8 * s.length) (p : Nat) : ∀ i, i ≤ 32 → bitAt (flips k w s i) p = (bitAt s p ^^ (decide (k ≤ p ∧ p < k + i) && w.getLsbD (p - k)))
  | 0, _ => by
    rw [decide_eq_false (by omega)]
    simp [flips]
  | i + 1, hi => by
    have ih := flips_bit (w := w) hk p i (by omega)
    unfold flips
    by_cases hw : w.getLsbD i = true
    · rw [if_pos hw, flipAt_bit (by rw [flips_len]; omega), ih]
      by_cases hp : p = k + i
      · subst hp
        rw [decide_eq_false (show ¬ (k ≤ k + i ∧ k + i < k + i) by omega), decide_eq_true (show k ≤ k + i ∧ k + i < k + (i + 1) by omega), show k + i - k = i by omega, hw]
        simp
      · rw [decide_eq_false hp, show decide (k ≤ p ∧ p < k + (i + 1)) = decide (k ≤ p ∧ p < k + i) from decide_eq_decide.2 (by omega)]
        simp
    · rw [if_neg hw, ih]
      by_cases hp : p = k + i
      · subst hp
        rw [show k + i - k = i by omega, show w.getLsbD i = false by simpa using hw]
        simp
      · rw [show decide (k ≤ p ∧ p < k + (i + 1)) = decide (k ≤ p ∧ p < k + i) from decide_eq_decide.2 (by omega)]
theorem loop_eq (w : BitVec 32) {k : Nat} {s : List (BitVec 8)} (hs : s.length ≤ 1000000) (hk : k + 32 ≤ 8 * s.length) : butterylaw03_ChecksumTells_l0 w (k : Int) (s, 0) = some (flips k w s 32) := by
  have h := loopO_up (body := fun s => butterylaw03_ChecksumTells_b0 w (k : Int) s.1 s.2) (fun i : Nat => (flips k w s i, (i : Int))) 32 (x := flips k w s 32) (fun i hi => by
    simp only [butterylaw03_ChecksumTells_b0, lt_eq, sc_nat, Option.map_some, Option.bind_some]
    rw [if_pos (decide_eq_true (by omega))]
    have hc : (w >>> i &&& 1#32 == 1#32) = w.getLsbD i := by
      have := crc_and_one (w >>> i)
      rw [BitVec.getLsbD_ushiftRight, Nat.add_zero] at this
      rw [Bool.eq_iff_iff, beq_iff_eq]; exact this
    rw [hc]
    conv => rhs; rw [flips]
    by_cases hw : w.getLsbD i = true
    · have hl := flips_len k w s i
      have hq : (k + i) / 8 < (flips k w s i).length := by omega
      have e1 : quo64 (w64 ((k : Int) + (i : Int))) 8 = (((k + i) / 8 : Nat) : Int) := by
        rw [w64_eq (by omega) (by omega), quo64, Int.tdiv_eq_ediv_of_nonneg (by omega), w64_eq (by omega) (by omega)]
        omega
      have e2 : Int.tmod (w64 ((k : Int) + (i : Int))) 8 = (((k + i) % 8 : Nat) : Int) := by
        rw [w64_eq (by omega) (by omega), Int.tmod_eq_emod_of_nonneg (by omega)]
        omega
      rw [if_pos hw, if_pos hw, e1, e2]
      have e3 : chk (flips k w s i).length (((k + i) / 8 : Nat) : Int) = some () := by
        unfold chk; rw [if_pos (by omega)]
      have e4 : ixA (flips k w s i).length (flips k w s i) (((k + i) / 8 : Nat) : Int) = some (flips k w s i)[(k + i) / 8] := ixA_nat hq hq
      simp only [e3, e4, updA, sc_nat, Option.map_some, Option.bind_some]
      rw [w64_nat (by omega)]
      unfold flipAt
      rw [List.getD_eq_getElem?_getD, List.getElem?_eq_getElem hq]
      rfl
    · rw [if_neg hw, if_neg hw, w64_nat (by omega)]) (by
    simp only [butterylaw03_ChecksumTells_b0, lt_eq]
    rw [if_neg (by simp)])
  exact h
theorem sealV_eq {b : List (BitVec 8)} (hb : b.length ≤ 1000000000) : checksum_SealV b = some (cseal b) := by
  rw [← seal_eq hb]
  rfl
theorem cseal_fits (b : List (BitVec 8)) : cfits (cseal b) = true := by
  unfold cfits
  rw [cseal_len, decide_eq_true (by omega), show b.length + 4 - 4 = b.length by omega]
  unfold cseal
  rw [List.take_left, List.drop_left]
  simp
theorem ChecksumTells_pure (b : List (BitVec 8)) (at_ : BitVec 16) (w : BitVec 32) (_ : wfL wfT b) (_ : wfT at_) (_ : wfT w) : butterylaw03_ChecksumTells b at_ w = some true := by
  unfold butterylaw03_ChecksumTells
  simp only [lt_eq]
  by_cases hb : (b.length : Int) > 1000
  · simp [works03, hb]
  · rw [if_neg (by rw [decide_eq_false hb]; simp)]
    by_cases hw : w = 0#32
    · subst hw; simp [works03]
    · rw [show (w == 0#32) = false by simpa using hw]
      simp only [Option.bind_some, Bool.false_eq_true, if_false]
      rw [sealV_eq (by omega)]
      simp only [Option.bind_some]
      have hl := cseal_len b
      rw [w64_eq (n := (b.length : Int) + 4) (by omega) (by omega), if_neg (by rw [hl]; simp), w64_eq (n := (8 : Int) * _) (by omega) (by omega), w64_eq (by omega) (by omega), dv_eq (by omega)]
      simp only [Option.map_some, Option.bind_some]
      have hm : Int.tmod (at_.toNat : Int) (8 * ((cseal b).length : Int) - 31) = ((at_.toNat % (8 * (cseal b).length - 31) : Nat) : Int) := by
        rw [show 8 * ((cseal b).length : Int) - 31 = ((8 * (cseal b).length - 31 : Nat) : Int) by omega]
        exact (Int.ofNat_tmod _ _).symm
      have hk := Nat.mod_lt at_.toNat (show 8 * (cseal b).length - 31 > 0 by omega)
      rw [hm]
      generalize at_.toNat % (8 * (cseal b).length - 31) = k at *
      rw [loop_eq w (by omega) (by omega)]
      simp only [Option.bind_some]
      rw [fits_eq (by rw [flips_len]; omega)]
      have := tells (s := cseal b) (t := flips k w (cseal b) 32) (k := k) hw (flips_len ..) (by omega) (cseal_fits b) (fun p hp => flips_bit (by omega) p 32 (by omega))
      rw [this]
      simp [works03]
end Go.Proofs.Ytiembjojiaobbaa
namespace Go.Proofs.Ytiembjojiaobbaa
open Go Go.Va
set_option linter.unusedSimpArgs false
set_option linter.unusedVariables false
def wf_runtime_boundsError (x : runtime_boundsError) : Prop := (wfI .i64) x.x ∧ (wfI .i64) x.y ∧ wfT x.signed ∧ wfT x.code
theorem opens7 : Opens Try.prog 7 e_runtime_boundsError wf_runtime_boundsError := by
  intro H enc w fuel cs x hx
  obtain ⟨xs, m, _, _, hl, hn, hx⟩ := DataW.trod_struct Try.underlying7 hx
  rw [cellsOf_sz tk sz7 (by decide)] at hl
  obtain ⟨y0, w0, r0, o0⟩ := opens_f hx hn 0 (o := 0) (s := 1) rfl (opens_i64 Try.underlying2) rfl (cellsOf_sz tk sz2 (by decide))
  obtain ⟨y1, w1, r1, o1⟩ := opens_f hx hn 1 (o := 1) (s := 1) rfl (opens_i64 Try.underlying3) rfl (cellsOf_sz tk sz3 (by decide))
  obtain ⟨y2, w2, r2, o2⟩ := opens_f hx hn 2 (o := 2) (s := 1) rfl (opens_b Try.underlying4) rfl (cellsOf_sz tk sz4 (by decide))
  obtain ⟨y3, w3, r3, o3⟩ := opens_f hx hn 3 (o := 3) (s := 1) rfl (opens_u rfl rfl Try.underlying6) rfl (cellsOf_sz tk sz6 (by decide))
  refine ⟨⟨y0, y1, y2, y3⟩, ⟨w0, w1, w2, w3⟩, ?_, ?_⟩
  · have h := (rel_piece r0 (rel_piece r1 (rel_piece r2 (rel_piece r3 (rel_end hl)))))
    rw [List.drop_zero] at h
    first | exact h | (simp only [List.append_nil, List.append_assoc] at h ⊢; exact h) | (simpa [AV.cells, e_runtime_boundsError, c_runtime_boundsError] using h)
  · have h := (one_piece o0 (one_piece o1 (one_piece o2 (one_piece o3 (one_end hl)))))
    rw [List.drop_zero] at h
    exact h
theorem opens8 : Opens Try.prog 8 e_runtime_boundsError wf_runtime_boundsError := by
  intro H enc w fuel cs x hx
  obtain ⟨xs, m, _, _, hl, hn, hx⟩ := DataW.trod_struct Try.underlying8 hx
  rw [cellsOf_sz tk sz8 (by decide)] at hl
  obtain ⟨y0, w0, r0, o0⟩ := opens_f hx hn 0 (o := 0) (s := 1) rfl (opens_i64 Try.underlying2) rfl (cellsOf_sz tk sz2 (by decide))
  obtain ⟨y1, w1, r1, o1⟩ := opens_f hx hn 1 (o := 1) (s := 1) rfl (opens_i64 Try.underlying3) rfl (cellsOf_sz tk sz3 (by decide))
  obtain ⟨y2, w2, r2, o2⟩ := opens_f hx hn 2 (o := 2) (s := 1) rfl (opens_b Try.underlying4) rfl (cellsOf_sz tk sz4 (by decide))
  obtain ⟨y3, w3, r3, o3⟩ := opens_f hx hn 3 (o := 3) (s := 1) rfl (opens_u rfl rfl Try.underlying6) rfl (cellsOf_sz tk sz6 (by decide))
  refine ⟨⟨y0, y1, y2, y3⟩, ⟨w0, w1, w2, w3⟩, ?_, ?_⟩
  · have h := (rel_piece r0 (rel_piece r1 (rel_piece r2 (rel_piece r3 (rel_end hl)))))
    rw [List.drop_zero] at h
    first | exact h | (simp only [List.append_nil, List.append_assoc] at h ⊢; exact h) | (simpa [AV.cells, e_runtime_boundsError, c_runtime_boundsError] using h)
  · have h := (one_piece o0 (one_piece o1 (one_piece o2 (one_piece o3 (one_end hl)))))
    rw [List.drop_zero] at h
    exact h
def wf_runtime_errorAddressString (x : runtime_errorAddressString) : Prop := wfS x.msg ∧ wfT x.addr
theorem opens13 : Opens Try.prog 13 e_runtime_errorAddressString wf_runtime_errorAddressString := by
  intro H enc w fuel cs x hx
  obtain ⟨xs, m, _, _, hl, hn, hx⟩ := DataW.trod_struct Try.underlying13 hx
  rw [cellsOf_sz tk sz13 (by decide)] at hl
  obtain ⟨y0, w0, r0, o0⟩ := opens_f hx hn 0 (o := 0) (s := 1) rfl (opens_s Try.underlying9) rfl (cellsOf_sz tk sz9 (by decide))
  obtain ⟨y1, w1, r1, o1⟩ := opens_f hx hn 1 (o := 1) (s := 1) rfl (opens_u rfl rfl Try.underlying12) rfl (cellsOf_sz tk sz12 (by decide))
  refine ⟨⟨y0, y1⟩, ⟨w0, w1⟩, ?_, ?_⟩
  · have h := (rel_piece r0 (rel_piece r1 (rel_end hl)))
    rw [List.drop_zero] at h
    first | exact h | (simp only [List.append_nil, List.append_assoc] at h ⊢; exact h) | (simpa [AV.cells, e_runtime_errorAddressString, c_runtime_errorAddressString] using h)
  · have h := (one_piece o0 (one_piece o1 (one_end hl)))
    rw [List.drop_zero] at h
    exact h
theorem opens14 : Opens Try.prog 14 e_runtime_errorAddressString wf_runtime_errorAddressString := by
  intro H enc w fuel cs x hx
  obtain ⟨xs, m, _, _, hl, hn, hx⟩ := DataW.trod_struct Try.underlying14 hx
  rw [cellsOf_sz tk sz14 (by decide)] at hl
  obtain ⟨y0, w0, r0, o0⟩ := opens_f hx hn 0 (o := 0) (s := 1) rfl (opens_s Try.underlying9) rfl (cellsOf_sz tk sz9 (by decide))
  obtain ⟨y1, w1, r1, o1⟩ := opens_f hx hn 1 (o := 1) (s := 1) rfl (opens_u rfl rfl Try.underlying12) rfl (cellsOf_sz tk sz12 (by decide))
  refine ⟨⟨y0, y1⟩, ⟨w0, w1⟩, ?_, ?_⟩
  · have h := (rel_piece r0 (rel_piece r1 (rel_end hl)))
    rw [List.drop_zero] at h
    first | exact h | (simp only [List.append_nil, List.append_assoc] at h ⊢; exact h) | (simpa [AV.cells, e_runtime_errorAddressString, c_runtime_errorAddressString] using h)
  · have h := (one_piece o0 (one_piece o1 (one_end hl)))
    rw [List.drop_zero] at h
    exact h
end Go.Proofs.Ytiembjojiaobbaa
