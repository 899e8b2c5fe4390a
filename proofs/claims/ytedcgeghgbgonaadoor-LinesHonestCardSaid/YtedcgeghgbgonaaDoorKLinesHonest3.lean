/- NOTHING COMES THAT WAS NOT SENT: whatever befalls messages, each that comes was sent; and what comes, is lost, and is on its way, is as many as were sent and doubled. (part 3 of 7) -/
import Derived.Test.YtedcgeghgbgonaaDoorKLinesHonest2
import Derived.Carry
import Derived.ChangeArms
import Derived.ChangeOld
import Derived.KernelRfl
import Derived.Laws.RangeString
import Derived.Lib.AppendZeros
import Derived.Scope
import Derived.Stop.Asserts
import Derived.Test.YtedcgeghgbgonaaDoorProg
import Derived.WideShapes
namespace Go.Va
open Go Go.RowKit
set_option linter.unusedVariables false
set_option linter.unusedSimpArgs false
def delO {α : Type} (l : List α) (i j : Int) : Option (List α) := if 0 ≤ i ∧ i ≤ j ∧ j ≤ l.length ∧ i < l.length then some (l.take i.toNat ++ l.drop j.toNat) else none
theorem delO_some {α : Type} {l r : List α} {i j : Int} (h : delO l i j = some r) : ∃ a b : Nat, i = a ∧ j = b ∧ a ≤ b ∧ b ≤ l.length ∧ a < l.length ∧ r = l.take a ++ l.drop b := by
  unfold delO at h
  split at h
  case isFalse => cases h
  rename_i hc
  cases h
  exact ⟨i.toNat, j.toNat, by omega, by omega, by omega, by omega, by omega, rfl⟩
section
variable {P : Program} {Ty : TypeId → Option TI} {n : Nat} {σ : St} {ops : Array Oper} {fr : Nat → AV} {d : Option Tmp} {ty : TypeId} {pos : String} {af : Array Edge} {g : Option (Nat × Bool)} {ox oy oi : Operand} {T T' E U : TypeId} {α : Type} {e : α → AV} {sz id off m cap : Nat}
theorem o_vclen (hT : TyOk P Ty) (hd : tdOf Ty T = .slice E) (hx : aeval fr ox = .vc id sz off m cap) : OpP P ⟨d, .call ⟨.builtin .len, #[ox], #[T]⟩, ty, pos, af, g⟩ fr (eI (m : Int)) := fun τ => by
  refine OpS.of_aop2 hT rfl (aeval fr) (fun x _ => Wk.refl _) (a := .int .i64 m) ?_ (Wk.refl _)
  simp only [aop2, hx, alen2, hd]
  rfl
theorem o_vcs (hT : TyOk P Ty) {lo hi mx : Option Operand} (l h k : Nat) (hd : tdOf Ty T = .slice E) (hz : szOf Ty E = sz) (hs : sz ≠ 0) (hx : aeval fr ox = .vc id sz off m cap) (h1 : abnd 0 (lo.map (aeval fr)) = some l) (h2 : abnd m (hi.map (aeval fr)) = some h) (h3 : abnd cap (mx.map (aeval fr)) = some k) (hk : (mx.map (aeval fr)).isSome = true → (hi.map (aeval fr)).isSome = true) (hlh : l ≤ h) (hhk : h ≤ k) (hkc : k ≤ cap) :
    OpP P ⟨d, .slice T ox lo hi mx, ty, pos, af, g⟩ fr (.vc id sz (if k = l then off else off + l * sz) (h - l) (k - l)) := fun τ => by
  refine OpS.of_aop2 hT rfl (aeval fr) (fun x _ => Wk.refl _) (a := .vc id sz (if k = l then off else off + l * sz) (h - l) (k - l)) ?_ (Wk.refl _)
  simp only [aop2, hx, aslice2, hd, h1, h2, h3]
  rw [if_pos ⟨hk, hlh, hhk, hkc, hz.symm, hs⟩]
  rfl
theorem o_vcs0 (hT : TyOk P Ty) {hi : Operand} (h : Nat) (hd : tdOf Ty T = .slice E) (hz : szOf Ty E = sz) (hs : sz ≠ 0) (hx : aeval fr ox = .vc id sz off m cap) (h2 : aeval fr hi = eI (h : Int)) (hhk : h ≤ cap) :
    OpP P ⟨d, .slice T ox none (some hi) none, ty, pos, af, g⟩ fr (.vc id sz off h cap) := by
  have := o_vcs (P := P) (d := d) (ty := ty) (pos := pos) (af := af) (g := g) hT (lo := none) (hi := some hi) (mx := none) 0 h cap hd hz hs hx rfl (by rw [Option.map_some, h2]; simp [abnd, eI]) rfl (fun h => by cases h) (Nat.zero_le _) hhk (Nat.le_refl _)
  have e : (if cap = 0 then off else off + 0 * sz) = off := by split <;> simp
  rw [e] at this
  simpa using this
theorem o_vcapp (hT : TyOk P Ty) {i : TI} {cells ys : List AV} {k : Nat} (hc : σ.objs[id]? = some cells) (hsp : spcl cells = false) (hne : cells ≠ []) (hd : tdOf Ty T = .slice E) (hi : Ty E = some i) (hsz : i.sz = sz) (hx : aeval fr ox = .vc id sz off m cap) (hs : srcC Ty U sz σ (aeval fr oy) = some (k, ys)) (hfit : m + k ≤ cap) (hle : off + m * sz ≤ cells.length) :
    OpS P ⟨d, .call ⟨.builtin .append, #[ox, oy], #[T, U]⟩, ty, pos, af, g⟩ fr σ (fun a τ => a = .vc id sz off (m + k) cap ∧ τ = ⟨σ.objs.set id (cells.take (off + m * sz) ++ ys ++ cells.drop (off + m * sz + ys.length)), σ.opn, σ.gl⟩) := by
  refine OpS.of_aop2 hT rfl (aeval fr) (fun x _ => Wk.refl _) (a := .vc id sz off (m + k) cap) ?_ (Wk.refl _)
  simp only [aop2, hx, aappendC, hd, hi, row_eq hc hsp]
  rw [hsz, hs]
  simp only
  rw [if_pos ⟨trivial, hfit, hle, by cases cells with | nil => exact absurd rfl hne | cons _ _ => rfl⟩]
theorem o_vcclear (hT : TyOk P Ty) {i : TI} {cells : List AV} (hc : σ.objs[id]? = some cells) (hsp : spcl cells = false) (hne : cells ≠ []) (hd : tdOf Ty T = .slice E) (hi : Ty E = some i) (hsz : i.sz = sz) (hx : aeval fr ox = .vc id sz off m cap) (hle : off ≤ cells.length) :
    OpS P ⟨d, .call ⟨.builtin .clear, #[ox], #[T]⟩, ty, pos, af, g⟩ fr σ (fun a τ => a = .tup [] ∧ τ = ⟨σ.objs.set id (cells.take off ++ flat (List.replicate m i.zero) ++ cells.drop (off + (flat (List.replicate m i.zero)).length)), σ.opn, σ.gl⟩) := by
  refine OpS.of_aop2 hT rfl (aeval fr) (fun x _ => Wk.refl _) (a := .tup []) ?_ (Wk.refl _)
  simp only [aop2, hx, aclear, hd, hi, row_eq hc hsp]
  rw [if_pos ⟨hsz, hle, by cases cells with | nil => exact absurd rfl hne | cons _ _ => rfl⟩]
theorem srcC_vc {cells : List AV} (hd : tdOf Ty U = .slice E) (hc : σ.objs[id]? = some cells) (hsp : spcl cells = false) (hle : off + m * sz ≤ cells.length) : srcC Ty U sz σ (.vc id sz off m cap) = some (m, (cells.drop off).take (m * sz)) := by
  simp only [srcC, if_true, partOf, hd, row_eq hc hsp]
  rw [if_pos hle]
theorem ACall.room {gg : FuncId} {rest : List AV} {K : AV → St → Prop} (h0 : 0 < m) (h : ∀ c, m ≤ c → ACall P gg (.vc id sz 0 m c :: rest) σ K) : ACall P gg (.vec id sz m :: rest) σ K := by
  refine ⟨(h m (Nat.le_refl _)).1, fun w0 G w vs hI hr => ?_⟩
  have hl := hr.len
  cases hv : vs.toList with
  | nil => rw [hv] at hl; simp at hl
  | cons v vs' =>
    rw [hv] at hr
    have h1 := hr.at_ 0 v _ rfl rfl
    cases h1 with
    | vec0 A _ _ => omega
    | vec _ _ _ c b h0 hc hm hl hs =>
      refine (h c hc).2 w0 G w vs hI ?_
      rw [hv]
      refine RelL.cons (.vc id sz 0 m c b hc hm hl (by omega)) ⟨by simpa using hr.len, fun i u a e1 e2 => hr.at_ (i + 1) u a (by simpa using e1) (by simpa using e2)⟩
theorem ACall.freeze {gg : FuncId} {args : List AV} {r : List α} {c : Nat} (he : Enc Ty E sz e) (hc : ∀ cells, σ.objs[id]? = some cells → True) (h : ACall P gg args σ (fun a τ => a = .vc id sz 0 r.length c ∧ ∃ cells, cells ≠ [] ∧ spcl cells = false ∧ cells.take (r.length * sz) = cL e r ∧ id < σ.objs.length ∧ τ = ⟨σ.objs.set id cells, σ.opn, σ.gl⟩)) :
    ACall P gg args σ (fun a τ => a = .sl (.own σ.opn.length) sz (r.map e) ∧ τ = ⟨σ.objs.set id [], σ.opn ++ [true], σ.gl⟩) := by
  refine ⟨h.1, fun w0 G w vs hI hr => (h.2 w0 G w vs hI hr).mono ?_⟩
  rintro e' w' ⟨v, a, σ', G', rfl, h1, h2, h3, rfl, cells, hne, hsp, htk, hid, rfl⟩
  have hcell : (σ.objs.set id cells)[id]? = some cells := by rw [List.getElem?_set]; simp [hid]
  have hlen : r.length * sz ≤ cells.length := by
    have := congrArg List.length htk
    rw [cL_length he.len, List.length_take] at this
    omega
  cases h3 with
  | vc _ _ _ _ _ b hcc hm hl hs =>
    obtain ⟨vs, k1, k2, hle, hI'⟩ := h2.freeze hcell hl hne hsp (r.length * sz) (c * sz) hlen (by omega)
    rw [htk] at k1
    have hz : ∀ y ∈ r.map e, y.cells.length = sz := fun y hy => by obtain ⟨z, _, rfl⟩ := List.mem_map.1 hy; exact he.len z
    refine ⟨_, .sl (.own σ.opn.length) sz (r.map e), _, _, rfl, h1.trans hle, ?_, ?_, rfl, rfl⟩
    · have e2 : (σ.objs.set id cells).set id [] = σ.objs.set id [] := by rw [List.set_set]
      rw [← e2]
      exact hI'
    · have key := Rel.mkSl (G := G'.frz b vs σ.opn.length (r.length * sz) (c * sz)) (b := b) (o := 0) (c := c) (sz := sz) (t := .own σ.opn.length) (es := r.map e) (news := vs) (by simpa using hcc) hm hz (k1.mono hle) (fun j u hu => by
        simp only [Ghost.frz, if_true, Nat.zero_add]; exact hu) ⟨by simp [Ghost.frz], .inr (by simp [Ghost.frz])⟩
      rw [List.length_map] at key
      exact key
theorem nsp_cat {A B C : List AV} (hA : A.all flatAV = true) (hB : B.all flatAV = true) (hC : C.all flatAV = true) (i j : Nat) : (A.take i ++ B ++ C.drop j).all flatAV = true := by
  rw [List.all_eq_true] at *
  intro x hx
  rcases List.mem_append.1 hx with hx | hx
  · rcases List.mem_append.1 hx with hx | hx
    · exact hA x (List.mem_of_mem_take hx)
    · exact hB x hx
  · exact hC x (List.mem_of_mem_drop hx)
theorem flat_rep {z : AV} (h : z.cells.all flatAV = true) (n : Nat) : (flat (List.replicate n z)).all flatAV = true := by
  rw [List.all_eq_true] at *
  intro x hx
  unfold flat at hx
  obtain ⟨y, hy, hx⟩ := List.mem_flatMap.1 hx
  rw [(List.mem_replicate.1 hy).2] at hx
  exact h x hx
theorem cL_take (he : ∀ x, (e x).cells.length = sz) (l : List α) (a : Nat) : (cL e l).take (a * sz) = cL e (l.take a) := by
  by_cases h : a ≤ l.length
  · have e1 : cL e l = cL e (l.take a) ++ cL e (l.drop a) := by rw [← cL_append, List.take_append_drop]
    rw [e1, List.take_left' (by rw [cL_length he, List.length_take, Nat.min_eq_left h])]
  · rw [List.take_of_length_le (by rw [cL_length he]; exact Nat.mul_le_mul_right _ (by omega)), List.take_of_length_le (by omega)]
theorem cL_drop (he : ∀ x, (e x).cells.length = sz) (l : List α) (a : Nat) : (cL e l).drop (a * sz) = cL e (l.drop a) := by
  by_cases h : a ≤ l.length
  · have e1 : cL e l = cL e (l.take a) ++ cL e (l.drop a) := by rw [← cL_append, List.take_append_drop]
    rw [e1, List.drop_left' (by rw [cL_length he, List.length_take, Nat.min_eq_left h])]
  · rw [List.drop_of_length_le (by rw [cL_length he]; exact Nat.mul_le_mul_right _ (by omega)), List.drop_of_length_le (by omega)]; rfl
end
end Go.Va
namespace Go.Va
theorem abnd_nat (d k : Nat) : abnd d (some (eI (k : Int))) = some k := by simp [abnd, eI]
end Go.Va
namespace Go.Va
def cpV {α : Type} {n : Nat} (v : Vector α n) (l : List α) : Option (Vector α n) := if h : l.length ≤ n then some ⟨(l ++ v.toList.drop l.length).toArray, by simp; omega⟩ else none
section
variable {P : Program} {Ty : TypeId → Option TI} {σ σ0 : St} {O : List (Nat × List AV)} {A' : List Nat} {ops : Array Oper} {fr : Nat → AV} {d : Option Tmp} {ty : TypeId} {pos : String} {af : Array Edge} {g : Option (Nat × Bool)} {ox oy oi : Operand} {T T' E U : TypeId} {α : Type} {e : α → AV} {sz id m cap : Nat}
end
end Go.Va
namespace Go.Va
open Go Go.RowKit
set_option linter.unusedVariables false
set_option linter.unusedSimpArgs false

def argG (w : World) : Ghost := ⟨fun b o => match w.cell? ⟨b, o, none⟩ with | some v => if v.oneCell' = true then some v else none | none => none, fun _ => none, fun _ => none, 0, fun _ => false, fun _ => 0⟩
theorem argG_fz {w : World} {b o : Nat} {v : Value} (h : w.cell? ⟨b, o, none⟩ = some v) (h1 : v.oneCell' = true) : (argG w).fz b o = some v := by
  simp [argG, h, h1]
theorem argG_inv (w : World) {gl : List (Addr × Value)} (hgl : ∀ p ∈ gl, w.cell? p.1 = some p.2) : Inv w (argG w) w ⟨[], [], gl⟩ := by
  refine ⟨Below.refl _ _, fun b o v h => ?_, fun id c h => by simp at h, fun id b o c h => by simp [argG] at h, fun id b h => by simp [argG] at h, fun id b h => by simp [argG] at h, fun i j b c d h => by simp [argG] at h, fun t b top en h => by simp at h, fun t x h => by simp [argG] at h, fun t t' x x' h => by simp at h, Nat.le_refl _, fun b h => by simp [argG] at h, hgl, fun id a h => by simp at h⟩
  simp only [argG] at h
  split at h
  case h_2 => cases h
  rename_i u hu
  split at h
  case isFalse => cases h
  rename_i h1
  cases h
  exact ⟨hu, h1⟩
theorem ACall.said {P : Program} {n : FuncId} {args : List AV} {vs : Array Value} {w : World} {gl : List (Addr × Value)} (hgl : ∀ p ∈ gl, w.cell? p.1 = some p.2) (hc : ACall P n args ⟨[], [], gl⟩ (fun a τ => a = eB true ∧ τ = ⟨[], [], gl⟩)) (hr : RelL (argG w) vs.toList args) :
    Calls P n vs w fun e w' => e = .returned (.bool true) ∧ Below w.heap.size w w' :=
  (hc.2 w (argG w) w vs (argG_inv w hgl) hr).mono fun e w' ⟨v, a, σ', G', h1, _, h3, h4, h5, _⟩ => by
    subst h5
    cases h4
    exact ⟨h1, h3.below⟩

def Opens (P : Program) (t : TypeId) {α : Type} (e : α → AV) (wf : α → Prop) : Prop :=
  ∀ {H : Type} (enc : TypeId × Value → H) (w : World) (fuel : Nat) (cs : List Value) (x : DataW H × List MemPlace), DataW.trod enc P w 0 (fun _ => true) true fuel t cs = some x → ∃ y : α, wf y ∧ RelL (argG w) cs (e y).cells ∧ ∀ v ∈ cs, v.oneCell' = true
def wfI (k : IntKind) (n : Int) : Prop := k.min ≤ n ∧ n ≤ k.max
def wfL {α : Type} (wf : α → Prop) (l : List α) : Prop := l.length ≤ maxLen ∧ ∀ x ∈ l, wf x
def wfS (s : List (BitVec 8)) : Prop := s.length ≤ maxLen
def wfT {α : Type} (_ : α) : Prop := True
section
variable {P : Program} {Ty : TypeId → Option TI} {t E : TypeId}
theorem wf_iff {k : IntKind} {n : Int} (h : (Lit.int k n).wf = true) : wfI k n := by
  simp only [Lit.wf, Bool.and_eq_true, decide_eq_true_eq] at h; exact h
theorem opens_i {k : IntKind} (h : P.underlying t = some (.int k)) : Opens P t (eK k) (wfI k) := by
  intro H enc w fuel cs x hx
  obtain ⟨n, rfl, _, hw⟩ := DataW.trod_int h hx
  exact ⟨n, wf_iff hw, (RelL.nil _).cons (.int _ _), by simp [Value.oneCell']⟩
theorem opens_i64 (h : P.underlying t = some (.int .i64)) : Opens P t eI (wfI .i64) := opens_i h
theorem opens_u {k : IntKind} {m : Nat} (hs : k.signed = false) (hb : k.bits = m) (h : P.underlying t = some (.int k)) : Opens P t (@eU k m) wfT := by
  subst hb
  intro H enc w fuel cs x hx
  obtain ⟨n, rfl, _, hw⟩ := DataW.trod_int h hx
  have hw := wf_iff hw
  simp only [wfI, IntKind.min, IntKind.max, hs, Bool.false_eq_true, if_false] at hw
  refine ⟨BitVec.ofInt k.bits n, trivial, ?_, by simp [Value.oneCell']⟩
  have e : ((BitVec.ofInt k.bits n).toNat : Int) = n := by
    rw [BitVec.toNat_ofInt]
    have h2 : (2 : Int) ^ k.bits = ((2 ^ k.bits : Nat) : Int) := by simp
    rw [h2] at hw
    rw [Int.emod_eq_of_lt hw.1 (by omega), Int.toNat_of_nonneg hw.1]
  show RelL _ _ [AV.int k ((BitVec.ofInt k.bits n).toNat : Int)]
  rw [e]
  exact (RelL.nil _).cons (.int _ _)
theorem opens_b (h : P.underlying t = some .bool) : Opens P t eB wfT := by
  intro H enc w fuel cs x hx
  obtain ⟨b, rfl, _⟩ := DataW.trod_bool h hx
  exact ⟨b, trivial, (RelL.nil _).cons (.bool _), by simp [Value.oneCell']⟩
theorem opens_s (h : P.underlying t = some .string) : Opens P t eS wfS := by
  intro H enc w fuel cs x hx
  obtain ⟨s, rfl, _, hs⟩ := DataW.trod_string h hx
  refine ⟨s.data.toList.map (·.toBitVec), ?_, ?_, by simp [Value.oneCell']⟩
  · simpa [wfS] using hs
  · show RelL _ _ [AV.str _]
    rw [mkB_of]
    exact (RelL.nil _).cons (.str _)
theorem cellsOf_ty (hT : TyOk P Ty) {i : TI} (h : Ty t = some i) : P.cellsOf t = i.sz := by
  obtain ⟨_, ti, z, h1, h2, _⟩ := hT t i h
  simp [Program.cellsOf, h1, h2]
theorem cellsOf_sz (hT : TyOk P Ty) {sz : Nat} (h : szOf Ty t = sz) (h0 : sz ≠ 0) : P.cellsOf t = sz := by
  unfold szOf at h
  split at h
  · rename_i i hi; rw [cellsOf_ty hT hi, h]
  · exact absurd h.symm h0
theorem opens_l (hT : TyOk P Ty) {sz : Nat} {α : Type} {e : α → AV} {wf : α → Prop} (h : P.underlying t = some (.slice E)) (he : Enc Ty E sz e) (ho : Opens P E e wf) : Opens P t (eL sz e) (wfL wf) := by
  intro H enc w fuel cs x hx
  rcases DataW.trod_slice h hx with ⟨rfl, _⟩ | ⟨a, len, cap, elems, rest, n, _, rfl, _, _, hlc, hcm, hel, hat, _, _⟩
  · exact ⟨[], ⟨Nat.zero_le _, fun x hx => by cases hx⟩, (RelL.nil _).cons (.sl0 none 0 .no sz (Nat.zero_le _) (.inl rfl)), by simp [Value.oneCell']⟩
  · rw [cellsOf_sz hT he.ty he.pos] at hat
    have key : ∀ i, i < len → ∃ cs' y, w.cells? 0 (a.add (i * sz)) sz = some cs' ∧ wf y ∧ RelL (argG w) cs' (e y).cells ∧ ∀ v ∈ cs', v.oneCell' = true := fun i hi => by
      have h1 := hat i hi
      rw [List.getElem?_eq_getElem (by omega)] at h1
      obtain ⟨cs', h2, h3⟩ := Option.bind_eq_some_iff.1 h1
      obtain ⟨y, h4, h5, h6⟩ := ho enc w n cs' _ h3
      exact ⟨cs', y, h2, h4, h5, h6⟩
    -- the values, one by one
    have all : ∀ m, m ≤ len → ∃ ys : List α, ys.length = m ∧ (∀ y ∈ ys, wf y) ∧ ∀ (i : Nat) (y : α), ys[i]? = some y → ∃ cs', w.cells? 0 (a.add (i * sz)) sz = some cs' ∧ RelL (argG w) cs' (e y).cells ∧ ∀ v ∈ cs', v.oneCell' = true := by
      intro m
      induction m with
      | zero => exact fun _ => ⟨[], rfl, (fun y hy => by cases hy), fun i y hy => by simp at hy⟩
      | succ m ih =>
        intro hm
        obtain ⟨ys, h1, h2, h3⟩ := ih (by omega)
        obtain ⟨cs', y, k1, k2, k3, k4⟩ := key m (by omega)
        refine ⟨ys ++ [y], by simp [h1], fun z hz => ?_, fun i z hz => ?_⟩
        · rcases List.mem_append.1 hz with hz | hz
          · exact h2 z hz
          · simp at hz; subst hz; exact k2
        · rw [List.getElem?_append] at hz
          split at hz
          · exact h3 i z hz
          · rename_i hi
            have : i - ys.length = 0 := by
              rcases Nat.eq_zero_or_pos (i - ys.length) with h0 | h0
              · exact h0
              · rw [List.getElem?_eq_none (by simp; omega)] at hz; cases hz
            rw [this] at hz
            simp at hz
            subst hz
            rw [show i = m by omega]
            exact ⟨cs', k1, k3, k4⟩
    obtain ⟨ys, h1, h2, h3⟩ := all len (Nat.le_refl _)
    refine ⟨ys, ⟨by omega, h2⟩, (RelL.nil _).cons ?_, by simp [Value.oneCell']⟩
    have hz : ∀ z ∈ ys.map e, z.cells.length = sz := fun z hz => by obtain ⟨y, _, rfl⟩ := List.mem_map.1 hz; exact he.len y
    cases ys with
    | nil =>
      simp at h1
      subst h1
      exact .sl0 _ _ .no sz hcm (.inl rfl)
    | cons y0 ys0 =>
      have hsp : a.spot = none := by
        obtain ⟨cs', k1, _, _⟩ := h3 0 y0 rfl
        obtain ⟨_, k2, k3⟩ := World.cells?_some k1
        have := k3 0 (Nat.pos_of_ne_zero he.pos)
        rw [Nat.zero_mul] at this
        have e0 : (a.add 0).add 0 = a := by simp [Addr.add]
        rw [e0, List.getElem?_eq_getElem (by have := Nat.pos_of_ne_zero he.pos; omega)] at this
        exact World.cell?_spot this
      obtain ⟨b, o, sp⟩ := a
      simp only at hsp
      subst hsp
      have hl : ((y0 :: ys0).map e).length = len := by rw [List.length_map]; exact h1
      have hcell : ∀ (i : Nat) (z : AV) (j : Nat) (u : AV), ((y0 :: ys0).map e)[i]? = some z → z.cells[j]? = some u → ∃ v, w.cell? ⟨b, o + i * sz + j, none⟩ = some v ∧ v.oneCell' = true ∧ Rel (argG w) v u := by
        intro i z j u e1 e2
        rw [List.getElem?_map, Option.map_eq_some_iff] at e1
        obtain ⟨y, e1, rfl⟩ := e1
        obtain ⟨cs', k1, k2, k3⟩ := h3 i y e1
        obtain ⟨_, k4, k5⟩ := World.cells?_some k1
        obtain ⟨v, hv, hr⟩ := k2.get e2
        have hj : j < sz := by rw [← k4]; exact (List.getElem?_eq_some_iff.1 hv).1
        have := k5 j hj
        rw [Addr.add_lit, Addr.add_lit, hv] at this
        exact ⟨v, this, k3 v (List.mem_of_getElem? hv), hr⟩
      have key2 := Rel.sl (G := argG w) b o cap .no sz ((y0 :: ys0).map e) (fun i j => (w.cell? ⟨b, o + i * sz + j, none⟩).getD undef) (by rw [hl]; exact hlc) hcm hz (fun i z j u e1 e2 => by
        obtain ⟨v, k1, k2, k3⟩ := hcell i z j u e1 e2
        rw [k1]
        exact argG_fz k1 k2) (fun i z j u e1 e2 => by
        obtain ⟨v, k1, k2, k3⟩ := hcell i z j u e1 e2
        rw [k1]
        exact k3) trivial
      rw [hl] at key2
      exact key2
theorem rel_piece {G : Ghost} {cs : List Value} {o s : Nat} {a b : List AV} (h : RelL G ((cs.drop o).take s) a) (k : RelL G (cs.drop (o + s)) b) : RelL G (cs.drop o) (a ++ b) := by
  have := h.append k
  rw [← List.drop_drop, List.take_append_drop] at this
  exact this
theorem rel_end {G : Ghost} {cs : List Value} {n : Nat} (h : cs.length = n) : RelL G (cs.drop n) [] := by
  rw [List.drop_of_length_le (by omega)]; exact RelL.nil G
theorem one_piece {cs : List Value} {o s : Nat} (h : ∀ v ∈ (cs.drop o).take s, v.oneCell' = true) (k : ∀ v ∈ cs.drop (o + s), v.oneCell' = true) : ∀ v ∈ cs.drop o, v.oneCell' = true := by
  intro v hv
  rw [← List.take_append_drop s (cs.drop o), List.drop_drop] at hv
  rcases List.mem_append.1 hv with hv | hv
  · exact h v hv
  · exact k v hv
theorem one_end {cs : List Value} {n : Nat} (h : cs.length = n) : ∀ v ∈ cs.drop n, v.oneCell' = true := by
  rw [List.drop_of_length_le (by omega)]; intro v hv; cases hv
theorem opens_f {fs : Array Field} {α : Type} {e : α → AV} {wf : α → Prop} {H : Type} {enc : TypeId × Value → H} {w : World} {m : Nat} {cs : List Value} {xs : List (DataW H × List MemPlace)} (hx : ∀ (i : Nat) (f : Field), fs[i]? = some f → DataW.trod enc P w 0 (fun _ => true) true m f.type ((cs.drop f.offset).take (P.cellsOf f.type)) = xs[i]?) (hl : xs.length = fs.size)
    (i : Nat) {f : Field} {o s : Nat} (hf : fs[i]? = some f) (ht : Opens P f.type e wf) (ho : f.offset = o) (hs : P.cellsOf f.type = s) : ∃ y, wf y ∧ RelL (argG w) ((cs.drop o).take s) (e y).cells ∧ ∀ v ∈ (cs.drop o).take s, v.oneCell' = true := by
  subst ho; subst hs
  have h1 := hx i f hf
  have hi : i < fs.size := (Array.getElem?_eq_some_iff.1 hf).1
  rw [List.getElem?_eq_getElem (by omega)] at h1
  exact ht enc w m _ _ h1
theorem Opens.arg {α : Type} {e : α → AV} {wf : α → Prop} (ho : Opens P t e wf) {sz : Nat} (he : Enc Ty t sz e) (hd : TdOk P t (tdOf Ty t)) {H : Type} {enc : TypeId × Value → H} {w : World} {r : Reach} {b0 : Nat} {v : Value} {d : DataW H} {ps : List MemPlace} (hval : Value.okWide P w r b0 t v) (h : DataW.Trod enc P w 0 (fun _ => true) true t v d ps) : ∃ y : α, wf y ∧ Rel (argG w) v (e y) := by
  obtain ⟨fuel, hf⟩ := h
  obtain ⟨y, h1, h2, _⟩ := ho enc w fuel _ _ hf
  refine ⟨y, h1, ?_⟩
  cases ha : isAggTD (tdOf Ty t) with
  | true =>
    have : ∃ cs, v = .agg cs := by
      cases htd : tdOf Ty t <;> rw [htd] at ha hd <;> simp [isAggTD] at ha
      · simp only [TdOk] at hd
        simp only [Value.okWide, hd] at hval
        obtain ⟨cs, h, _⟩ := hval; exact ⟨cs, h⟩
      · simp only [TdOk] at hd
        obtain ⟨fs, hd, _⟩ := hd
        simp only [Value.okWide, hd] at hval
        obtain ⟨cs, h, _⟩ := hval; exact ⟨cs, h⟩
    obtain ⟨cs, rfl⟩ := this
    rw [he.agg ha y]
    exact mkAgg (by simpa [Value.cells] using h2)
  | false =>
    rw [he.one ha y] at h2
    have hne : ∀ cs, v ≠ .agg cs := by
      rintro cs rfl
      have hl := h2.len
      simp only [Value.cells, List.length_singleton] at hl
      cases htd : tdOf Ty t <;> rw [htd] at ha hd <;> simp [isAggTD] at ha <;> simp only [TdOk] at hd
      case iface => obtain ⟨ms, hd⟩ := hd; simp [Value.okWide, hd, Cell.okWide, Cell.ok] at hval
      case func => obtain ⟨ps, rs, vv, hd⟩ := hd; simp [Value.okWide, hd, Cell.okWide, Cell.ok] at hval
      all_goals simp [Value.okWide, hd, Cell.okWide, Cell.ok] at hval
    have hc : v.cells.toList = [v] := by cases v <;> first | rfl | exact absurd rfl (hne _)
    rw [hc] at h2
    exact h2.at_ 0 v (e y) rfl rfl
end
mutual
def purA : AV → Bool
  | .sl .no _ es => purL es
  | .sl .full _ _ => false
  | .sl (.own _) _ _ => false
  | .agg cs => purL cs
  | .tup vs => purL vs
  | .fptr x _ => purL x
  | .iface _ v => purA v
  | .fn _ a b => purL a && purL b
  | .ref _ _ => false
  | .msl _ _ _ => false
  | .vec _ _ _ => false
  | .vc _ _ _ _ _ => false
  | .junk => true
  | .int _ _ => true
  | .bool _ => true
  | .str _ => true
  | .nilp => true
  | .nils => true
  | .nilm => true
  | .nilf => true
  | .nili => true
  | .spc _ => false
  | .mapr _ => false
  | .itc _ _ => false
  | .mpc _ _ => false
def purL : List AV → Bool
  | [] => true
  | a :: l => purA a && purL l
end
theorem purL_iff : ∀ {l : List AV}, purL l = true ↔ ∀ a ∈ l, purA a = true
  | [] => by simp [purL]
  | a :: l => by simp [purL, purL_iff (l := l)]
theorem pur_cells {a x : AV} (h : purA a = true) (hx : x ∈ a.cells) : purA x = true := by
  cases a with
  | agg cs =>
    have h' : purL cs = true := by simpa [purA] using h
    exact purL_iff.1 h' x hx
  | _ => simp [AV.cells] at hx; subst hx; exact h
theorem Rel.pur {G G2 : Ghost} (hz : ∀ b o u, G.fz b o = some u → G2.fz b o = some u) {v : Value} {a : AV} (h : Rel G v a) (hp : purA a = true) : Rel G2 v a := by
  induction h with
  | junk v => exact .junk v
  | int k n => exact .int k n
  | bool b => exact .bool b
  | str s => exact .str s
  | nilp => exact .nilp
  | nils => exact .nils
  | nilm => exact .nilm
  | nilf => exact .nilf
  | nili => exact .nili
  | spc id b h => cases hp
  | mapr id b h => cases hp
  | agg vs aas hl _ ih => exact .agg vs aas hl fun i v a h1 h2 => ih i v a h1 h2 (purL_iff.1 (by simpa [purA] using hp) a (List.mem_of_getElem? h2))
  | tup vs aas hl _ ih => exact .tup vs aas hl fun i v a h1 h2 => ih i v a h1 h2 (purL_iff.1 (by simpa [purA] using hp) a (List.mem_of_getElem? h2))
  | sl b o c t sz es val hc hm hzz hf _ ht ih =>
    cases t with
    | no =>
      have hp' : ∀ e ∈ es, purA e = true := purL_iff.1 (by simpa [purA] using hp)
      exact .sl b o c .no sz es val hc hm hzz (fun i e j a h1 h2 => hz _ _ _ (hf i e j a h1 h2)) (fun i e j a h1 h2 => ih i e j a h1 h2 (pur_cells (hp' e (List.mem_of_getElem? h1)) (List.mem_of_getElem? h2))) trivial
    | _ => cases hp
  | sl0 A c t sz hm ht =>
    cases t with
    | no => exact .sl0 A c .no sz hm (.inl rfl)
    | _ => cases hp
  | fptr b o off x val hf _ ih =>
    have hp' : ∀ e ∈ x, purA e = true := purL_iff.1 (by simpa [purA] using hp)
    exact .fptr b o off x val (fun j a h1 => hz _ _ _ (hf j a h1)) fun j a h1 => ih j a h1 (hp' a (List.mem_of_getElem? h1))
  | ref id off b h => cases hp
  | msl id off len c b hc h => cases hp
  | vec id sz len c b h0 hc hm h hs => cases hp
  | vec0 A id sz => cases hp
  | vc id sz off len c b hc hm h hs => cases hp
  | iface t v a _ ih => exact .iface t v a (ih (by simpa [purA] using hp))
  | fn f fs cs fa ca hl hk _ _ ih1 ih2 =>
    simp only [purA, Bool.and_eq_true] at hp
    exact .fn f fs cs fa ca hl hk (fun i v a h1 h2 => ih1 i v a h1 h2 (purL_iff.1 hp.1 a (List.mem_of_getElem? h2))) (fun i v a h1 h2 => ih2 i v a h1 h2 (purL_iff.1 hp.2 a (List.mem_of_getElem? h2)))
inductive BArg (σ : St) : AV → AV → Prop where
  | wk {a b : AV} (h : Wk a b) (hp : purA b = true) : BArg σ a b
  | vec {id sz n : Nat} {es : List AV} (hc : σ.objs[id]? = some (flat es)) (hsp : spcl (flat es) = false) (hn : n = es.length) (hz : ∀ e ∈ es, e.cells.length = sz) (hs : sz ≠ 0) (hp : purL es = true) : BArg σ (.vec id sz n) (.sl .no sz es)
  | vc {id sz off n cap : Nat} {cells es : List AV} (hc : σ.objs[id]? = some cells) (hsp : spcl cells = false) (hle : off + n * sz ≤ cells.length) (hcs : (cells.drop off).take (n * sz) = flat es) (hn : n = es.length) (hz : ∀ e ∈ es, e.cells.length = sz) (hs : sz ≠ 0) (hp : purL es = true) : BArg σ (.vc id sz off n cap) (.sl .no sz es)
inductive BArgs (σ : St) : List AV → List AV → Prop where
  | nil : BArgs σ [] []
  | cons {a b : AV} {aas bs : List AV} (h : BArg σ a b) (t : BArgs σ aas bs) : BArgs σ (a :: aas) (b :: bs)
theorem BArg.rel {σ : St} {w0 : World} {G : Ghost} {w : World} (hI : Inv w0 G w σ) {a b : AV} (h : BArg σ a b) {v : Value} (hr : Rel G v a) : Rel (argG w) v b := by
  have hz : ∀ b o u, G.fz b o = some u → (argG w).fz b o = some u := fun b o u hf => argG_fz (hI.fz b o u hf).1 (hI.fz b o u hf).2
  cases h with
  | wk h hp => exact (h G v hr).pur hz hp
  | @vec id sz n es hc hsp hn hzz hs hp =>
    have hfl := flat_length hzz
    cases hr with
    | vec0 A _ _ =>
      have hnil : es = [] := List.eq_nil_of_length_eq_zero hn.symm
      subst hnil
      exact .sl0 A 0 .no sz (Nat.zero_le _) (.inl rfl)
    | vec _ _ _ c b h0 hc' hm hl hbs =>
      have hne : flat es ≠ [] := fun he => by
        have h2 : (flat es).length = 0 := by rw [he]; rfl
        rw [hfl] at h2
        rcases Nat.mul_eq_zero.1 h2 with h | h
        · omega
        · exact hs h
      obtain ⟨b', T, vs, k1, k2, k3, k4, k5, k6⟩ := hI.loc _ _ hc hne hsp
      rw [hl] at k1
      injection k1 with k1
      subst k1
      have hrel : RelL (argG w) (vs.toList.take (flat es).length) (flat es) := ⟨k4.rel.len, fun i u a h1 h2 => (k4.rel.at_ i u a h1 h2).pur hz (by
        obtain ⟨e, he, ha⟩ := List.mem_flatMap.1 (show a ∈ es.flatMap AV.cells from by have := List.mem_of_getElem? h2; simpa [flat] using this)
        exact pur_cells (purL_iff.1 hp e he) ha)⟩
      rw [hn]
      refine Rel.mkSl (b := b) (o := 0) (t := .no) (by omega) hm hzz hrel (fun j u hu => ?_) trivial
      rw [Nat.zero_add]
      rw [List.getElem?_take] at hu
      split at hu
      · refine argG_fz ?_ (k5 u (List.mem_iff_getElem?.2 ⟨j, hu⟩))
        rw [cell_of_row _ _ _ vs T (0, 0) k3]
        simpa using hu
      · cases hu
  | @vc id sz off n cap cells es hc hsp hle hcs hn hzz hs hp =>
    have hfl := flat_length hzz
    cases hr with
    | vc _ _ _ _ _ b hc' hm hl hbs =>
      by_cases hne : cells = []
      · subst hne
        have h0 : n * sz = 0 := by rw [List.length_nil] at hle; omega
        have hn0 : n = 0 := by
          rcases Nat.mul_eq_zero.1 h0 with h | h
          · exact h
          · exact absurd h hs
        subst hn0
        have hnil : es = [] := List.eq_nil_of_length_eq_zero hn.symm
        subst hnil
        exact .sl0 _ cap .no sz hm (.inl rfl)
      · obtain ⟨b', T, vs, k1, k2, k3, k4, k5, k6⟩ := hI.loc _ _ hc hne hsp
        rw [hl] at k1
        injection k1 with k1
        subst k1
        have hvs : cells.length ≤ vs.size := k4.le
        have hcl : (flat es).length = n * sz := by rw [hfl, ← hn]
        have hrel : RelL (argG w) ((vs.toList.drop off).take (n * sz)) (flat es) := ⟨by rw [hcl, List.length_take, List.length_drop, Array.length_toList]; omega, fun i u a h1 h2 => by
          have hi : i < n * sz := by rw [← hcl]; exact (List.getElem?_eq_some_iff.1 h2).1
          rw [List.getElem?_take, if_pos hi, List.getElem?_drop] at h1
          have h3 := h2
          rw [← hcs, List.getElem?_take, if_pos hi, List.getElem?_drop] at h3
          refine (k4.rel.at_ (off + i) u a (by rw [List.getElem?_take, if_pos (by omega)]; exact h1) h3).pur hz ?_
          obtain ⟨e, he, ha⟩ := List.mem_flatMap.1 (show a ∈ es.flatMap AV.cells from by have := List.mem_of_getElem? h2; simpa [flat] using this)
          exact pur_cells (purL_iff.1 hp e he) ha⟩
        rw [hn] at hrel hc' ⊢
        refine Rel.mkSl (b := b) (o := off) (t := .no) hc' hm hzz hrel (fun j u hu => ?_) trivial
        rw [List.getElem?_take] at hu
        split at hu
        · rw [List.getElem?_drop] at hu
          refine argG_fz ?_ (k5 u (List.mem_iff_getElem?.2 ⟨off + j, hu⟩))
          rw [cell_of_row _ _ _ vs T (0, 0) k3]
          simpa using hu
        · cases hu
theorem BArgs.rel {σ : St} {w0 : World} {G : Ghost} {w : World} (hI : Inv w0 G w σ) : ∀ {aas bs : List AV} (_ : BArgs σ aas bs) {vs : List Value}, RelL G vs aas → RelL (argG w) vs bs
  | _, _, .nil, vs, h => ⟨h.len, fun i v a _ h2 => by simp at h2⟩
  | _, _, .cons (a := a) h t, vs, hr => by
    cases vs with
    | nil => have := hr.len; simp at this
    | cons v vs =>
      exact RelL.cons (h.rel hI (hr.at_ 0 v a rfl rfl)) (t.rel hI ⟨by simpa using hr.len, fun i u b e1 e2 => hr.at_ (i + 1) u b (by simpa using e1) (by simpa using e2)⟩)
def sclA : AV → Bool
  | .int _ _ => true
  | .bool _ => true
  | .str _ => true
  | .tup [] => true
  | .tup [.int _ _, .bool _] => true
  | .tup [.int _ _, .int _ _] => true
  | _ => false
section
variable {P : Program} {Ty : TypeId → Option TI} {σ : St} {fr : Nat → AV}
theorem Inv.wko {w0 : World} {G : Ghost} {w : World} {σ : St} (h : Inv w0 G w σ) {id : Nat} {c c' : List AV} (hc : σ.objs[id]? = some c) (hsp : spcl c = false) (hw : WkL c c') : Inv w0 G w ⟨σ.objs.set id c', σ.opn, σ.gl⟩ := by
  have hlen : ∀ {a b : List AV}, WkL a b → a.length = b.length := by
    intro a b h
    induction h with
    | nil => rfl
    | cons _ _ ih => simp [ih]
  have hl := hlen hw
  have hlt := (List.getElem?_eq_some_iff.1 hc).1
  have key : ∀ (i : Nat) (d : List AV), (σ.objs.set id c')[i]? = some d → d ≠ [] → ∃ d', σ.objs[i]? = some d' ∧ d' ≠ [] ∧ (spcl d = false → spcl d' = false) ∧ WkL d' d := by
    intro i d hd hn
    rw [List.getElem?_set] at hd
    split at hd
    · rename_i he; subst he
      have hd' : c' = d := by
        first
          | exact Option.some.inj hd
          | (rw [if_pos hlt] at hd; exact Option.some.inj hd)
      subst hd'
      exact ⟨c, hc, fun h => by rw [h] at hl; exact hn (List.eq_nil_of_length_eq_zero hl.symm), fun _ => hsp, hw⟩
    · exact ⟨d, hd, hn, fun h => h, .refl d⟩
  refine ⟨h.below, h.fz, fun i d hd hn hs => ?_, fun i b o d hl' hd hn => ?_, h.loclt, fun i b hl' => by simpa using h.locdom i b hl', fun i j b d e hi hj hd he hn hn' => ?_, fun t b top en ho ht => ?_, h.tokdom, h.tokinj, h.nt, h.lit, h.gl, h.sp_to (.refl G) (fun _ _ _ h => h) (fun i a h1 h2 => by
      simp only at h1
      rw [List.getElem?_set] at h1
      split at h1
      · have e : c' = [a] := by
          first
            | exact Option.some.inj h1
            | (rw [if_pos (by omega)] at h1; exact Option.some.inj h1)
        obtain ⟨b, T, vs, e1, e2, e3, e4, e5, e6⟩ := h.loc id c hc (fun h0 => by rw [h0] at hl; rw [e] at hl; cases hl) hsp
        have hx := rell_nsp (hw.rel e4.rel)
        rw [e] at hx
        simp only [spcl] at hx
        rw [hx] at h2; cases h2
      · exact h1)⟩
  · obtain ⟨d', a1, a2, aq, a3⟩ := key i d hd hn
    obtain ⟨b, T, vs, e1, e2, e3, e4, e5, e6⟩ := h.loc i d' a1 a2 (aq hs)
    have hdl := hlen a3
    exact ⟨b, T, vs, e1, e2, e3, ⟨by rw [← hdl]; exact e4.le, by rw [← hdl]; exact a3.rel e4.rel⟩, e5, e6⟩
  · obtain ⟨d', a1, a2, _⟩ := key i d hd hn
    exact h.locfz i b o d' hl' a1 a2
  · obtain ⟨d', a1, a2, _⟩ := key i d hd hn
    obtain ⟨e', b1, b2, _⟩ := key j e he hn'
    exact h.locinj i j b d' e' hi hj a1 b1 a2 b2
  · obtain ⟨e1, e2, e3, e4⟩ := h.tok t b top en ho ht
    refine ⟨e1, e2, e3, fun i hi => ?_⟩
    have h0 := e4 i hi
    rw [List.getElem?_set]
    split
    · rename_i he; subst he
      rw [hc] at h0; cases h0
      have : c' = [] := List.eq_nil_of_length_eq_zero hl.symm
      subst this
      first | rfl | rw [if_pos hlt]
    · exact h0
theorem AWP.wko {n : Nat} {c : Code} {Q : AExit → (Nat → AV) → St → Prop} {l : List (Nat × AV)} {σ0 : St} {O : List (Nat × List AV)} {A : List Nat} (hH : Holds σ0 O A σ) (k : Nat) {id : Nat} {c0 c1 : List AV} (hk : O[k]? = some (id, c0)) (hw : WkL c0 c1) (h : ∀ τ, Holds σ0 (O.set k (id, c1)) A τ → AWP P n c Q (Va.fm l) τ) (hsp : spcl c0 = false := by first | rfl | exact spcl_cL (by assumption) _) : AWP P n c Q (Va.fm l) σ := fun w0 G a w hS =>
  h _ (hH.put k hk c1) w0 G a w ⟨hS.inv.wko (hH.at_ k hk) hsp hw, hS.frm, hS.size, hS.defers⟩
end
end Go.Va
namespace Go.Va
open Go Go.RowKit
section
variable {P : Program} {Ty : TypeId → Option TI} {σ σ' : St} {fr : Nat → AV}
theorem OpS.of_run {o : Oper} {a : AV} (h : ∀ w0 G (ρ : Operand → Value) w, Inv w0 G w σ → (∀ x ∈ o.op.operands, Rel G (ρ x) (aeval fr x)) → ∃ v w' G', (execOp ρ o).run P w = .ok (.value v) w' ∧ G.Le G' ∧ Inv w0 G' w' σ' ∧ Rel G' v a) : OpS P o fr σ (fun a' τ => a' = a ∧ τ = σ') := by
  intro w0 G act w Q K' hI hr hK
  obtain ⟨v, w', G', h1, h2, h3, h4⟩ := h w0 G act.eval w hI hr
  unfold Oper.wp
  rw [h1]
  exact hK v a σ' w' G' ⟨rfl, rfl⟩ h2 h3 h4
def eqCells (P : Program) : List Field → List AV → List AV → Option Bool
  | [], _, _ => some true
  | f :: fs, cs, ds => if f.name = "_" then none else match cs[f.offset]?, ds[f.offset]?, P.underlying f.type with
    | some (.int k a), some (.int k' b), some (.int _) => if k = k' then (if a == b then eqCells P fs cs ds else some false) else none
    | some (.str a), some (.str b), some .string => if decide (a = b) then eqCells P fs cs ds else some false
    | some (.bool a), some (.bool b), some .bool => if a == b then eqCells P fs cs ds else some false
    | _, _, _ => none
variable {d : Option Tmp} {ty : TypeId} {pos : String} {af : Array Edge} {g : Option (Nat × Bool)} {ox oy oi : Operand} {T T' E U : TypeId}
end
end Go.Va
namespace Go.Va
open Go Go.RowKit
set_option linter.unusedVariables false
set_option linter.unusedSimpArgs false
section
variable {P : Program} {Ty : TypeId → Option TI} {σ σ0 : St} {O : List (Nat × List AV)} {A : List Nat} {fr : Nat → AV} {d : Option Tmp} {ty : TypeId} {pos : String} {af : Array Edge} {g : Option (Nat × Bool)} {ox oy oi : Operand} {T T' E U : TypeId} {α : Type} {e : α → AV} {sz id off cap : Nat}
structure PartV (e : α → AV) (sz : Nat) (c : List AV) (off cap : Nat) (l : List α) : Prop where
  le : off + l.length * sz ≤ c.length
  at_ : (c.drop off).take (l.length * sz) = cL e l
  room : l.length ≤ cap
  nsp : spcl c = false
def vco (sz off cap l : Nat) : Nat := if cap = l then off else off + l * sz
theorem PartV.all (he : Enc Ty E sz e) {l : List α} (h : l.length ≤ cap) : PartV e sz (cL e l) 0 cap l :=
  have hl := cL_length he.len l
  ⟨by rw [hl]; omega, by rw [List.drop_zero, List.take_of_length_le (by rw [hl]; exact Nat.le_refl _)], h, spcl_cL he l⟩
theorem PartV.cutN (he : Enc Ty E sz e) {c : List AV} {l : List α} (hp : PartV e sz c off cap l) {a b : Nat} (h1 : a ≤ b) (h2 : b ≤ l.length) : PartV e sz c (vco sz off cap a) (cap - a) ((l.take b).drop a) := by
  have hlen : ((l.take b).drop a).length = b - a := by rw [List.length_drop, List.length_take]; omega
  have hroom := hp.room
  have hle := hp.le
  have hab : (b - a) * sz = b * sz - a * sz := Nat.sub_mul _ _ _
  have hb : b * sz ≤ l.length * sz := Nat.mul_le_mul_right _ h2
  have ha : a * sz ≤ b * sz := Nat.mul_le_mul_right _ h1
  unfold vco
  by_cases hc : cap = a
  · rw [if_pos hc]
    have h0 : b - a = 0 := by omega
    refine ⟨by rw [hlen, h0]; omega, ?_, by omega, hp.nsp⟩
    rw [hlen, h0, Nat.zero_mul, List.take_zero, List.eq_nil_of_length_eq_zero (hlen.trans h0)]
    rfl
  · rw [if_neg hc]
    refine ⟨by rw [hlen, hab]; omega, ?_, by omega, hp.nsp⟩
    rw [hlen, ← cL_drop he.len, ← cL_take he.len, ← hp.at_, List.take_take, Nat.min_eq_left hb, List.drop_take, List.drop_drop, hab]
theorem PartV.cut (he : Enc Ty E sz e) {c : List AV} {l z : List α} (hp : PartV e sz c off cap l) {lo hi : Int} (h : cutO l lo hi = some z) : PartV e sz c (vco sz off cap lo.toNat) (cap - lo.toNat) z := by
  unfold cutO at h
  split at h <;> cases h
  exact hp.cutN he (by omega) (by omega)
theorem PartV.cutTo (he : Enc Ty E sz e) {c : List AV} {l z : List α} (hp : PartV e sz c off cap l) {hi : Int} (h : cutTo l hi = some z) : PartV e sz c (vco sz off cap 0) (cap - 0) z := by
  unfold Va.cutTo at h
  split at h <;> cases h
  exact hp.cutN he (a := 0) (by omega) (by omega)
theorem PartV.cutFrom (he : Enc Ty E sz e) {c : List AV} {l z : List α} (hp : PartV e sz c off cap l) {lo : Int} (h : cutFrom l lo = some z) : PartV e sz c (vco sz off cap lo.toNat) (cap - lo.toNat) z := by
  unfold Va.cutFrom at h
  split at h <;> cases h
  have := hp.cutN he (a := lo.toNat) (b := l.length) (by omega) (Nat.le_refl _)
  rwa [List.take_length] at this
end
end Go.Va
namespace Go.Va
open Go Go.RowKit
section
variable {P : Program} {Ty : TypeId → Option TI} {σ σ0 : St} {O : List (Nat × List AV)} {A : List Nat} {fr : Nat → AV} {d : Option Tmp} {ty : TypeId} {pos : String} {af : Array Edge} {g : Option (Nat × Bool)} {ox oy : Operand} {T E U S : TypeId}
end
end Go.Va
namespace Go.Va
open Go Go.RowKit
section
variable {P : Program} {Ty : TypeId → Option TI}
variable {σ σ0 : St} {O : List (Nat × List AV)} {A : List Nat} {fr : Nat → AV} {d : Option Tmp} {ty : TypeId} {pos : String} {af : Array Edge} {g : Option (Nat × Bool)} {ox oy : Operand} {T E U S : TypeId} {α : Type} {e : α → AV} {sz id off cap : Nat}
end
end Go.Va
namespace Go.Va
open Go Go.RowKit
def cut3 {α : Type} (l : List α) (k h m : Int) : Option (List α) := if 0 ≤ k ∧ k ≤ h ∧ h ≤ m ∧ m ≤ l.length then some ((l.take h.toNat).drop k.toNat) else none
section
variable {P : Program} {Ty : TypeId → Option TI} {σ : St} {fr : Nat → AV} {d : Option Tmp} {ty : TypeId} {pos : String} {af : Array Edge} {g : Option (Nat × Bool)} {ox oy : Operand} {T E : TypeId} {α : Type} {e : α → AV} {sz : Nat} {k : Tok}
end
end Go.Va
namespace Go.Va
open Go Go.RowKit
inductive NkL (t : Nat) : List AV → List AV → Prop where
  | nil : NkL t [] []
  | same {a : AV} {l m : List AV} (h : NkL t l m) : NkL t (a :: l) (a :: m)
  | tok {sz : Nat} {l m : List AV} (h : NkL t l m) : NkL t (.nils :: l) (.sl (.own t) sz [] :: m)
theorem NkL.len {t : Nat} {l m : List AV} (h : NkL t l m) : l.length = m.length := by
  induction h with
  | nil => rfl
  | same _ ih => simp [ih]
  | tok _ ih => simp [ih]
theorem NkL.rel {t : Nat} {l m : List AV} (h : NkL t l m) {G : Ghost} (ht : t < G.nt) : ∀ {vs : List Value}, RelL G vs l → RelL G vs m := by
  induction h with
  | nil => exact fun h => h
  | same _ ih =>
    intro vs hr
    cases vs with
    | nil => have := hr.len; simp at this
    | cons v vs => exact RelL.cons (hr.at_ 0 v _ rfl rfl) (ih ⟨by simpa using hr.len, fun i u a e1 e2 => hr.at_ (i + 1) u a (by simpa using e1) (by simpa using e2)⟩)
  | tok _ ih =>
    intro vs hr
    cases vs with
    | nil => have := hr.len; simp at this
    | cons v vs =>
      have h1 := hr.at_ 0 v _ rfl rfl
      cases h1
      exact RelL.cons (.sl0 none 0 _ _ (Nat.zero_le _) (.inr ⟨rfl, ht⟩)) (ih ⟨by simpa using hr.len, fun i u a e1 e2 => hr.at_ (i + 1) u a (by simpa using e1) (by simpa using e2)⟩)
end Go.Va
namespace Go.Va
open Go Go.RowKit
set_option linter.unusedVariables false
set_option linter.unusedSimpArgs false
section
variable {P : Program} {Ty : TypeId → Option TI} {σ : St} {fr : Nat → AV} {d : Option Tmp} {ty : TypeId} {pos : String} {af : Array Edge} {g : Option (Nat × Bool)} {ox oy : Operand} {T T' E : TypeId} {k : Tok} {sz : Nat} {es : List AV}
theorem o_nilq (hT : TyOk P Ty) (hd : tdOf Ty T = .slice E) (hx : aeval fr ox = .sl k sz es) (hy : aeval fr oy = .nils) : OpS P ⟨d, .binOp .eql T ox oy T', ty, pos, af, g⟩ fr σ (fun a τ => (∃ b, a = .bool b ∧ (b = true → es = [])) ∧ τ = σ) := by
  intro w0 G act w Q K' hI hr hK
  have r1 := hr ox (by simp [Op.operands])
  have r2 := hr oy (by simp [Op.operands])
  rw [hx] at r1; rw [hy] at r2
  have hu := tdOf_ok hT hd (by simp)
  have e2 : act.eval oy = .slice none 0 0 := by
    generalize act.eval oy = v at r2
    cases r2
    rfl
  have e1 : ∃ A n c, act.eval ox = .slice A n c ∧ (A = none → es = []) := by
    generalize act.eval ox = v at r1
    cases r1 with
    | sl b o c t sz es val hc hm hz hf hr ht => exact ⟨_, _, _, rfl, fun h => by cases h⟩
    | sl0 A c t sz hm ht => exact ⟨A, 0, c, rfl, fun _ => rfl⟩
  obtain ⟨A, m, c, e1, h1⟩ := e1
  have hrun : (execOp act.eval ⟨d, .binOp .eql T ox oy T', ty, pos, af, g⟩).run P w = .ok (.value (.bool A.isNone)) w := by
    have he0 : ∀ d : Nat, (Op.equalIn (d + 1) T (.slice A m c) (.slice none 0 0)).run P w = .ok A.isNone w := fun d => by
      cases A with
      | none => simp [Op.equalIn, run_underlying hu]
      | some a => simp [Op.equalIn, run_underlying hu]
    have he : (Op.equalIn 10000 T (.slice A m c) (.slice none 0 0)).run P w = .ok A.isNone w := he0 9999
    have he' : (Op.equal T (.slice A m c) (.slice none 0 0)).run P w = .ok A.isNone w := he
    simp [execOp, e1, e2, eqGuard, binOp, he']
  unfold Oper.wp
  rw [hrun]
  exact hK _ (.bool A.isNone) σ w G ⟨⟨_, rfl, fun hb => h1 (by simpa using hb)⟩, rfl⟩ (.refl G) hI (.bool _)
theorem wpo_nilq {n : Nat} {ops : Array Oper} {K : (Nat → AV) → St → Prop} {o : Oper} {rest : List Oper} {l : List (Nat × AV)} {t : Nat} {es : List AV} (hd : o.dst = some t) (hlt : Nat.ble (t + 1) n = true) (hg : guardOf ops o (fm l) = some true)
    (ho : OpS P o (fm l) σ (fun a τ => (∃ b, a = .bool b ∧ (b = true → es = [])) ∧ τ = σ)) (h : ∀ b, (b = true → es = []) → wpo P n ops K rest (fm ((t, .bool b) :: l)) σ) : wpo P n ops K (o :: rest) (fm l) σ := by
  unfold wpo
  refine ⟨by rw [hd]; exact Nat.le_of_ble_eq_true hlt, ?_⟩
  rw [hg]
  refine ho.mono fun a τ ⟨⟨b, ha, hb⟩, hτ⟩ => ?_
  subst ha hτ
  rw [hd]
  exact h b hb
theorem awp_nilif {n : Nat} {c : Operand} {x y : Code} {Q : AExit → (Nat → AV) → St → Prop} {fr : Nat → AV} {b : Bool} (hb : aeval fr c = .bool b) (h1 : b = true → AWP P n x Q fr σ) (h2 : AWP P n y Q fr σ) : AWP P n (.cond c x y) Q fr σ := awp_cond hb h1 (fun _ => h2)
end

theorem Inv.alloc_sp {w0 : World} {G : Ghost} {w : World} {σ : St} (h : Inv w0 G w σ) {o : Obj} {a : AV} (ha : a.isSp = true) (hs : SpO G o a) :
    G.Le (G.addLoc σ.objs.length w.heap.size 0) ∧ Inv w0 (G.addLoc σ.objs.length w.heap.size 0) (w.alloc o) ⟨σ.objs ++ [[a]], σ.opn, σ.gl⟩ := by
  have hnone : ∀ i b, G.loc i = some b → i ≠ σ.objs.length := fun i b hi he => by have := h.locdom i b hi; omega
  have hle : G.Le (G.addLoc σ.objs.length w.heap.size 0) := ⟨fun _ _ _ h => h, fun i b hi => by simp [Ghost.addLoc, hnone i b hi, hi], fun _ _ h => h, Nat.le_refl _, fun _ h => h, fun i b hi => by simp [Ghost.addLoc, hnone i b hi]⟩
  have hsz := h.below.size
  have hat : ∀ (id : Nat) (c : List AV), (σ.objs ++ [[a]])[id]? = some c → (id < σ.objs.length ∧ σ.objs[id]? = some c) ∨ (id = σ.objs.length ∧ c = [a]) := by
    intro id c hc
    by_cases hid : id < σ.objs.length
    · rw [List.getElem?_append_left hid] at hc; exact .inl ⟨hid, hc⟩
    · rw [List.getElem?_append_right (by omega)] at hc
      cases hz : id - σ.objs.length with
      | zero => rw [hz] at hc; simp at hc; exact .inr ⟨by omega, hc.symm⟩
      | succ m => rw [hz] at hc; simp at hc
  refine ⟨hle, ⟨h.below.alloc hsz _, fun b o v hf => ?_, fun id c hc hne hn => ?_, fun id b o c hl hc hne => ?_, fun id b hl => ?_, fun id b hl => ?_, fun i j b c d hi hj hc hd hn hn' => ?_, fun t b top en ho ht => ?_, fun t x ht => h.tokdom t x ht, fun t t' x x' a1 a2 a3 a4 => h.tokinj t t' x x' a1 a2 a3 a4, h.nt, fun b hb => ?_, h.gl, fun id x hc hx => ?_⟩⟩
  · exact ⟨(alloc_cell_lt _ (h.fzlt hf)).trans (h.fz b o v hf).1, (h.fz b o v hf).2⟩
  · rcases hat id c hc with ⟨hid, hc⟩ | ⟨rfl, rfl⟩
    · obtain ⟨b, T', vs', e1, e2, e3, e4, e5, e6⟩ := h.loc id c hc hne hn
      exact ⟨b, T', vs', hle.loc _ _ e1, e2, (alloc_heap_lt _ (h.loclt _ _ e1)).trans e3, e4.mono hle, e5, by rw [hle.bsz _ _ e1]; exact e6⟩
    · simp only [spcl] at hn; rw [ha] at hn; cases hn
  · simp only [Ghost.addLoc] at hl
    split at hl
    · injection hl with hl; subst hl
      cases hz : (G.addLoc σ.objs.length w.heap.size 0).fz w.heap.size o with
      | none => rfl
      | some v => exact absurd (h.fzlt (b := w.heap.size) (o := o) hz) (by omega)
    · rw [List.getElem?_append_left (h.locdom id b hl)] at hc
      exact h.locfz id b o c hl hc hne
  · simp only [Ghost.addLoc] at hl
    split at hl
    · injection hl with hl; simp; omega
    · have := h.loclt id b hl; simp; omega
  · simp only [Ghost.addLoc] at hl
    split at hl
    · simp; omega
    · have := h.locdom id b hl; simp; omega
  · simp only [Ghost.addLoc] at hi hj
    split at hi <;> split at hj
    · omega
    · injection hi with hi; subst hi; exact absurd (h.loclt _ _ hj) (by omega)
    · injection hj with hj; subst hj; exact absurd (h.loclt _ _ hi) (by omega)
    · rw [List.getElem?_append_left (h.locdom i b hi)] at hc
      rw [List.getElem?_append_left (h.locdom j b hj)] at hd
      exact h.locinj i j b c d hi hj hc hd hn hn'
  · obtain ⟨e1, ⟨cs, T', e2, e3⟩, e4, e5⟩ := h.tok t b top en ho ht
    have hb : b < w.heap.size := (Array.getElem?_eq_some_iff.1 e2).1
    refine ⟨e1, ⟨cs, T', (alloc_heap_lt _ hb).trans e2, e3⟩, e4, fun id hl => ?_⟩
    simp only [Ghost.addLoc] at hl
    split at hl
    · injection hl with hl; omega
    · rw [List.getElem?_append_left (h.locdom id b hl)]
      exact e5 id hl
  · obtain ⟨k1, k2, k3, k4⟩ := h.lit b hb
    refine ⟨k1, by simp; omega, fun id hl => ?_, k4⟩
    simp only [Ghost.addLoc] at hl
    split at hl
    · injection hl with hl; omega
    · exact k3 id hl
  · rcases hat id [x] hc with ⟨hid, hc⟩ | ⟨rfl, e⟩
    · obtain ⟨b, o, e1, e2, e3, e4⟩ := h.sp id x hc hx
      exact ⟨b, o, hle.loc _ _ e1, e2, heap_alloc_keep _ e3, e4.mono hle⟩
    · obtain rfl := (List.cons.inj e).1
      exact ⟨w.heap.size, o, by simp [Ghost.addLoc], hsz, heap_alloc_new w _, hs.mono hle⟩
theorem Inv.set_sp {w0 : World} {G : Ghost} {w : World} {σ : St} (h : Inv w0 G w σ) {id b : Nat} {a a' : AV} {o' : Obj} (hc : σ.objs[id]? = some [a]) (ha : a.isSp = true) (hl : G.loc id = some b) (ha' : a'.isSp = true) (hs : SpO G o' a') :
    Inv w0 G { w with heap := w.heap.setIfInBounds b o' } ⟨σ.objs.set id [a'], σ.opn, σ.gl⟩ := by
  obtain ⟨b1, o, k1, k2, k3, k4⟩ := h.sp id a hc ha
  rw [hl] at k1
  injection k1 with k1
  subst k1
  have hlt := (Array.getElem?_eq_some_iff.1 k3).1
  have hidlt := h.locdom id b hl
  have hoth : ∀ k, k ≠ b → (w.heap.setIfInBounds b o')[k]? = w.heap[k]? := fun k hk => Array.getElem?_setIfInBounds_ne (Ne.symm hk)
  have hne : ∀ {k : Nat} {cs T f}, w.heap[k]? = some (.cells cs T f) → k ≠ b := fun {k cs T f} e he => by subst he; rw [k3] at e; injection e with e; exact k4.nc _ _ _ e
  have hbel : Below w0.heap.size w { w with heap := w.heap.setIfInBounds b o' } := ⟨rfl, rfl, rfl, by simp, fun k hk => hoth k (by omega)⟩
  have hcell : ∀ k x v, w.cell? ⟨k, x, none⟩ = some v → World.cell? { w with heap := w.heap.setIfInBounds b o' } ⟨k, x, none⟩ = some v := fun k x v hv => by
    have hkb : k ≠ b := fun he => by
      subst he
      simp only [World.cell?, k3] at hv
      obtain ⟨c, e, lo, hi⟩ | _ := o
      · exact k4.nc _ _ _ rfl
      all_goals simp at hv
    simp only [World.cell?] at hv ⊢
    rw [hoth k hkb]
    exact hv
  have hat : ∀ (i : Nat) (c : List AV), (σ.objs.set id [a'])[i]? = some c → (i = id ∧ c = [a']) ∨ (i ≠ id ∧ σ.objs[i]? = some c) := by
    intro i c hc'
    by_cases he : id = i
    · subst he
      rw [List.getElem?_set_self hidlt] at hc'
      exact .inl ⟨rfl, (Option.some.inj hc').symm⟩
    · rw [List.getElem?_set_ne he] at hc'
      exact .inr ⟨Ne.symm he, hc'⟩
  have hsome : ∀ (i : Nat) (c : List AV), (σ.objs.set id [a'])[i]? = some c → c ≠ [] → ∃ c', σ.objs[i]? = some c' ∧ c' ≠ [] := by
    intro i c hc' hn
    rcases hat i c hc' with ⟨rfl, rfl⟩ | ⟨_, e⟩
    · exact ⟨[a], hc, by simp⟩
    · exact ⟨c, e, hn⟩
  refine ⟨h.below.trans hbel, fun x o v hf => ⟨hcell _ _ _ (h.fz x o v hf).1, (h.fz x o v hf).2⟩, fun i c hc' hn hsp => ?_, fun i x o c hl' hc' hn => ?_, fun i x hl' => by simpa using h.loclt i x hl', fun i x hl' => by simpa using h.locdom i x hl', fun i j x c d hi hj hc' hd hn hn' => ?_, fun t x top en ho ht => ?_, h.tokdom, h.tokinj, h.nt, fun x hx => ?_, h.gl, fun i x hc' hx => ?_⟩
  · rcases hat i c hc' with ⟨rfl, rfl⟩ | ⟨_, e⟩
    · simp only [spcl] at hsp; rw [ha'] at hsp; cases hsp
    · obtain ⟨b', T, vs, e1, e2, e3, e4, e5, e6⟩ := h.loc i c e hn hsp
      exact ⟨b', T, vs, e1, e2, (hoth b' (hne e3)).trans e3, e4, e5, e6⟩
  · obtain ⟨c', e1, e2⟩ := hsome i c hc' hn
    exact h.locfz i x o c' hl' e1 e2
  · obtain ⟨c', e1, e2⟩ := hsome i c hc' hn
    obtain ⟨d', f1, f2⟩ := hsome j d hd hn'
    exact h.locinj i j x c' d' hi hj e1 f1 e2 f2
  · obtain ⟨e1, ⟨cs, T, e2, e3⟩, e4, e5⟩ := h.tok t x top en ho ht
    refine ⟨e1, ⟨cs, T, (hoth x (hne e2)).trans e2, e3⟩, e4, fun i hi => ?_⟩
    have h0 := e5 i hi
    rw [List.getElem?_set]
    split
    · rename_i he; subst he; rw [hc] at h0; cases h0
    · exact h0
  · obtain ⟨e1, e2, e3, e4⟩ := h.lit x hx
    exact ⟨e1, by simpa using e2, e3, e4⟩
  · rcases hat i [x] hc' with ⟨rfl, e⟩ | ⟨hi, e⟩
    · obtain rfl := (List.cons.inj e).1
      exact ⟨b, o', hl, k2, by simp [hlt], hs⟩
    · obtain ⟨b', o2, e1, e2, e3, e4⟩ := h.sp i x e hx
      have hb' : b' ≠ b := fun he => hi (h.locinj i id b [x] [a] (he ▸ e1) hl e hc (by simp) (by simp))
      exact ⟨b', o2, e1, e2, (hoth b' hb').trans e3, e4⟩
theorem awp_scope {P : Program} {n : Nat} {c : Code} {Q : AExit → (Nat → AV) → St → Prop} {fr : Nat → AV} {σ : St} (h : AWP P n c Q fr σ) : AWP P n (.scope c) Q fr σ := fun w0 G a w hS => by
  refine wp_scope_straight (wp_mono (h w0 G a w hS) ?_)
  rintro e a' w' ⟨ae, fr', σ', G', h1, h2⟩
  cases e <;> first | exact ⟨ae, fr', σ', G', h1, h2⟩ | exact absurd h1 (by cases ae <;> simp [ExitRel])
section
variable {P : Program} {Ty : TypeId → Option TI} {σ σ0 : St} {O : List (Nat × List AV)} {A : List Nat} {fr : Nat → AV} {d : Option Tmp} {ty : TypeId} {pos : String} {af : Array Edge} {g : Option (Nat × Bool)} {ox oy : Operand} {T : TypeId}
theorem run_next_at (w : World) (s : ByteArray) (pos b : Nat) (ty : TypeId) (hb : w.heap[b]? = some (.stringIter s pos)) (h : pos < s.size) (ha : (s[pos]'h).toNat < 128) :
    (Instr.next (.pointer (some ⟨b, 0, none⟩)) true ty).run P w = .ok (.tuple #[.bool true, .int .i64 pos, .int .i32 (s[pos]'h).toNat]) { w with heap := w.heap.setIfInBounds b (.stringIter s (pos + 1)) } := by
  simp [Instr.next, getObj, setObj, Sem.run, hb, Result.andThen, h, decode_ascii s pos h ha, goInt]
theorem run_next_done (w : World) (s : ByteArray) (pos b : Nat) (ty : TypeId) (hb : w.heap[b]? = some (.stringIter s pos)) (h : ¬ pos < s.size) :
    (Instr.next (.pointer (some ⟨b, 0, none⟩)) true ty).run P w = .ok (.tuple #[.bool false]) w := by
  simp [Instr.next, getObj, Sem.run, hb, h]
theorem WkL.append : ∀ {a b c d : List AV}, WkL a b → WkL c d → WkL (a ++ c) (b ++ d)
  | _, _, _, _, .nil, h => h
  | _, _, _, _, .cons h t, k => .cons h (t.append k)
theorem o_cw (hT : TyOk P Ty) (mu : Bool) {o : Oper} {a b : AV} (hc : callOf o = none) (h : ∀ τ, aop Ty mu o (aeval fr) τ = some (a, τ)) (hw : Wk a b) : OpP P o fr b := OpP.of_aop hT hc h hw
theorem h_allocw (hT : TyOk P Ty) (hH : Holds σ0 O A σ) {i : TI} (hi : Ty T = some i) (c : List AV) (hw : WkL i.zero.cells c) (hsp : spcl i.zero.cells = false := by rfl) : ∃ id τ, OpS P ⟨d, .alloc T, ty, pos, af, g⟩ fr σ (fun a' τ' => a' = (fun id => AV.ref id 0) id ∧ τ' = τ) ∧ (Holds σ0 ((id, c) :: O) A τ ∧ σ0.objs.length ≤ id) := by
  refine ⟨σ.objs.length, ⟨σ.objs ++ [c], σ.opn, σ.gl⟩, fun w0 G act w Q K' hI hr hK => o_alloc hT hi w0 G act w Q K' hI hr ?_, hH.add c, hH.olen⟩
  rintro v a σ' w' G' ⟨rfl, rfl⟩ hG hI' hv
  have h1 : (σ.objs ++ [i.zero.cells])[σ.objs.length]? = some i.zero.cells := by simp
  have h2 := hI'.wko h1 hsp hw
  have h3 : (σ.objs ++ [i.zero.cells]).set σ.objs.length c = σ.objs ++ [c] := by simp
  simp only [h3] at h2
  exact hK v _ _ w' G' ⟨rfl, rfl⟩ hG h2 hv
theorem mkB_at (s : List (BitVec 8)) (i : Nat) (h : i < (mkB s).size) (h' : i < s.length) : ((mkB s)[i]'h).toNat = (s[i]'h').toNat := by
  show ((mkB s).data[i]'h).toNat = _
  simp [mkB]
def cIt (x : List (BitVec 8) × Nat) : List AV := [.itc (mkB x.1) x.2]
def nxS (x : List (BitVec 8) × Nat) : Option (Option Int) := match x.1[x.2]? with
  | some b => if b.toNat < 128 then some (some (b.toNat : Int)) else none
  | none => some none
theorem h_range (hT : TyOk P Ty) (hH : Holds σ0 O A σ) {s : List (BitVec 8)} (hd : tdOf Ty T = .str) (hx : aeval fr ox = eS s) :
    ∃ id τ, OpS P ⟨d, .range T ox, ty, pos, af, g⟩ fr σ (fun a' τ' => a' = AV.spc id ∧ τ' = τ) ∧ (Holds σ0 ((id, cIt (s, 0)) :: O) A τ ∧ σ0.objs.length ≤ id) := by
  refine ⟨σ.objs.length, ⟨σ.objs ++ [cIt (s, 0)], σ.opn, σ.gl⟩, OpS.of_run fun w0 G ρ w hI hr => ?_, hH.add _, hH.olen⟩
  have r1 := hr ox (by simp [Op.operands])
  rw [hx] at r1
  have e1 : ρ ox = .string (mkB s) := by
    generalize ρ ox = v at r1
    cases r1
    rfl
  obtain ⟨hle, hI'⟩ := hI.alloc_sp (o := .stringIter (mkB s) 0) (a := .itc (mkB s) 0) rfl (.it _ _)
  refine ⟨.pointer (some ⟨w.heap.size, 0, none⟩), _, _, ?_, hle, hI', .spc _ _ (by simp [Ghost.addLoc])⟩
  have h := run_range_string (P := P) w T (mkB s) (tdOf_ok hT hd (by simp))
  simp [execOp, e1, h, World.iter]
theorem h_next1 (hH : Holds σ0 O A σ) (k : Nat) {id : Nat} {x : List (BitVec 8) × Nat} {c : Int} (h : nxS x = some (some c)) (hk : O[k]? = some (id, cIt x)) (hx : aeval fr ox = .spc id) :
    ∃ (_ : Nat) (τ : St), OpS P ⟨d, .next ox true, ty, pos, af, g⟩ fr σ (fun a' τ' => a' = .tup [eB true, eI (x.2 : Int), eK .i32 c] ∧ τ' = τ) ∧ Holds σ0 (O.set k (id, cIt (x.1, x.2 + 1))) A τ := by
  refine ⟨0, ⟨σ.objs.set id (cIt (x.1, x.2 + 1)), σ.opn, σ.gl⟩, OpS.of_run fun w0 G ρ w hI hr => ?_, hH.put k hk _⟩
  have r1 := hr ox (by simp [Op.operands])
  rw [hx] at r1
  generalize hv : ρ ox = v at r1
  cases r1 with
  | spc _ b hl =>
  obtain ⟨b1, o, k1, k2, k3, k4⟩ := hI.sp id _ (hH.at_ k hk) rfl
  rw [hl] at k1
  injection k1 with k1
  subst k1
  cases k4
  unfold nxS at h
  cases hb : x.1[x.2]? with
  | none => rw [hb] at h; cases h
  | some y =>
    rw [hb] at h
    simp only at h
    split at h
    case isFalse => cases h
    rename_i ha
    cases h
    obtain ⟨hlt, hy⟩ := List.getElem?_eq_some_iff.1 hb
    have hsz : x.2 < (mkB x.1).size := by rw [mkB_size]; exact hlt
    have hat : ((mkB x.1)[x.2]'hsz).toNat = y.toNat := by rw [← hy]; exact mkB_at _ _ _ hlt
    refine ⟨.tuple #[.bool true, .int .i64 x.2, .int .i32 (y.toNat : Int)], _, G, ?_, .refl G, hI.set_sp (hH.at_ k hk) rfl hl (o' := .stringIter (mkB x.1) (x.2 + 1)) (a' := .itc (mkB x.1) (x.2 + 1)) rfl (.it _ _), ?_⟩
    · have h5 := run_next_at (P := P) w (mkB x.1) x.2 b ty k3 hsz (by rw [hat]; exact ha)
      rw [hat] at h5
      simp [execOp, hv, h5]
    · exact .tup _ _ rfl (fun i v a h1 h2 => by
        match i, h1, h2 with
        | 0, h1, h2 => simp at h1 h2; subst h1; subst h2; exact .bool _
        | 1, h1, h2 => simp at h1 h2; subst h1; subst h2; exact .int _ _
        | 2, h1, h2 => simp at h1 h2; subst h1; subst h2; exact .int _ _
        | n + 3, h1, h2 => simp at h1)
theorem h_next0 (hH : Holds σ0 O A σ) (k : Nat) {id : Nat} {x : List (BitVec 8) × Nat} (h : nxS x = some none) (hk : O[k]? = some (id, cIt x)) (hx : aeval fr ox = .spc id) :
    ∃ (_ : Nat) (τ : St), OpS P ⟨d, .next ox true, ty, pos, af, g⟩ fr σ (fun a' τ' => a' = .tup [eB false] ∧ τ' = τ) ∧ Holds σ0 O A τ := by
  refine ⟨0, σ, OpS.of_run fun w0 G ρ w hI hr => ?_, hH⟩
  have r1 := hr ox (by simp [Op.operands])
  rw [hx] at r1
  generalize hv : ρ ox = v at r1
  cases r1 with
  | spc _ b hl =>
  obtain ⟨b1, o, k1, k2, k3, k4⟩ := hI.sp id _ (hH.at_ k hk) rfl
  rw [hl] at k1
  injection k1 with k1
  subst k1
  cases k4
  have hge : ¬ x.2 < (mkB x.1).size := by
    rw [mkB_size]
    unfold nxS at h
    cases hb : x.1[x.2]? with
    | none => have := List.getElem?_eq_none_iff.1 hb; omega
    | some y => rw [hb] at h; simp only at h; split at h <;> cases h
  refine ⟨.tuple #[.bool false], w, G, ?_, .refl G, hI, ?_⟩
  · have h5 := run_next_done (P := P) w (mkB x.1) x.2 b ty k3 hge
    simp [execOp, hv, h5]
  · exact .tup _ _ rfl (fun i v a h1 h2 => by
      match i, h1, h2 with
      | 0, h1, h2 => simp at h1 h2; subst h1; subst h2; exact .bool _
      | n + 1, h1, h2 => simp at h1)
end

theorem Holds.cells {σ0 σ : St} {O : List (Nat × List AV)} {A : List Nat} (h : Holds σ0 O A σ) (k : Nat) {id : Nat} {c : List AV} (c' : List AV) (hk : O[k]? = some (id, c)) (he : c = c') : Holds σ0 (O.set k (id, c')) A σ := by
  subst he
  obtain ⟨hlt, hg⟩ := List.getElem?_eq_some_iff.1 hk
  rw [← hg, List.set_getElem_self]
  exact h
theorem Holds.brings {σ : St} (O : List (Nat × List AV)) (ho : ∀ p ∈ O, σ.objs[p.1]? = some p.2) (hd : (O.map (·.1)).Pairwise fun a b => a ≠ b) : Holds σ O [] σ :=
  ⟨fun _ _ h _ => h, fun _ h => h, Nat.le_refl _, Nat.le_refl _, ho, List.pairwise_map.1 hd, fun _ h => (by cases h), .nil, rfl⟩
theorem Holds.pw {σ0 σ : St} {O : List (Nat × List AV)} {A : List Nat} (h : Holds σ0 O A σ) {ids : List Nat} (ks : List Nat) (hk : ks.map (fun k => (O.map (·.1))[k]?) = ids.map some) (hs : ks.Pairwise fun a b => a ≠ b) : ids.Pairwise fun a b => a ≠ b := by
  rw [List.pairwise_iff_getElem] at hs ⊢
  intro i j hi hj hij
  have hl : ks.length = ids.length := by have := congrArg List.length hk; simpa using this
  have key : ∀ (x : Nat) (hx : x < ids.length), ∃ p, O[ks[x]'(by omega)]? = some p ∧ p.1 = ids[x] := fun x hx => by
    have e := congrArg (fun l => l[x]?) hk
    simp only [List.getElem?_map, List.getElem?_eq_getElem (show x < ks.length by omega), List.getElem?_eq_getElem hx, Option.map_some, Option.some.injEq] at e
    obtain ⟨p, h1, h2⟩ := Option.map_eq_some_iff.1 e
    exact ⟨p, h1, h2⟩
  obtain ⟨p, p1, p2⟩ := key i hi
  obtain ⟨q, q1, q2⟩ := key j hj
  rw [← p2, ← q2]
  exact dist_get h.dist p1 q1 (hs i j (by omega) (by omega) hij)
theorem pw_zip {O : List (Nat × List AV)} (h : (O.map (·.1)).Pairwise fun a b => a ≠ b) : O.Pairwise fun p q => p.1 ≠ q.1 := List.pairwise_map.1 h
section
variable {P : Program} {σ : St}
def zipB (f : Nat → Nat) : Nat → List (List AV) → List (Nat × List AV)
  | _, [] => []
  | i, x :: l => (f i, x) :: zipB f (i + 1) l
theorem zipB_get (f : Nat → Nat) : ∀ (l : List (List AV)) (i k : Nat), (zipB f i l)[k]? = (l[k]?).map fun x => (f (i + k), x)
  | [], i, k => by simp [zipB]
  | x :: l, i, 0 => by simp [zipB]
  | x :: l, i, k + 1 => by
    simp only [zipB, List.getElem?_cons_succ]
    rw [zipB_get f l (i + 1) k, show i + 1 + k = i + (k + 1) by omega]
theorem zipB_mem {f : Nat → Nat} {l : List (List AV)} {i : Nat} {p : Nat × List AV} (h : p ∈ zipB f i l) : ∃ k, k < l.length ∧ p.1 = f (i + k) ∧ l[k]? = some p.2 := by
  obtain ⟨k, hk⟩ := List.mem_iff_getElem?.1 h
  rw [zipB_get] at hk
  obtain ⟨x, h1, rfl⟩ := Option.map_eq_some_iff.1 hk
  exact ⟨k, (List.getElem?_eq_some_iff.1 h1).1, rfl, h1⟩
theorem Holds.addL {σ0 σ : St} {O : List (Nat × List AV)} {A : List Nat} (h : Holds σ0 O A σ) (L : List (List AV)) : Holds σ0 (zipB (fun i => σ.objs.length + i) 0 L ++ O) A ⟨σ.objs ++ L, σ.opn, σ.gl⟩ := by
  refine ⟨fun i d h1 h2 => ?_, h.opn, by have := h.olen; simp; omega, h.tlen, fun p hp => ?_, ?_, h.tok, h.tdist, h.gl⟩
  · have := h.base i d h1 (fun p hp => h2 p (List.mem_append_right _ hp))
    simp only
    rw [List.getElem?_append_left (List.getElem?_eq_some_iff.1 this).1]
    exact this
  · rcases List.mem_append.1 hp with hp | hp
    · obtain ⟨k, hk, e1, e2⟩ := zipB_mem hp
      simp only [e1, Nat.zero_add]
      rw [List.getElem?_append_right (by omega), Nat.add_sub_cancel_left]
      exact e2
    · have := h.obj p hp
      simp only
      rw [List.getElem?_append_left (List.getElem?_eq_some_iff.1 this).1]
      exact this
  · rw [List.pairwise_append]
    refine ⟨?_, h.dist, fun p hp q hq => ?_⟩
    · rw [List.pairwise_iff_getElem]
      intro i j hi hj hij
      have e1 := List.getElem?_eq_getElem hi
      have e2 := List.getElem?_eq_getElem hj
      rw [zipB_get] at e1 e2
      obtain ⟨x, _, e1⟩ := Option.map_eq_some_iff.1 e1
      obtain ⟨y, _, e2⟩ := Option.map_eq_some_iff.1 e2
      rw [← e1, ← e2]
      show σ.objs.length + (0 + i) ≠ σ.objs.length + (0 + j)
      omega
    · obtain ⟨k, hk, e1, e2⟩ := zipB_mem hp
      have := (List.getElem?_eq_some_iff.1 (h.obj q hq)).1
      rw [e1]
      omega
inductive WkLL : List (List AV) → List (List AV) → Prop where
  | nil : WkLL [] []
  | cons {a b : List AV} {l m : List (List AV)} (hs : spcl a = false) (h : WkL a b) (t : WkLL l m) : WkLL (a :: l) (b :: m)
theorem Inv.wkoL {w0 : World} {G : Ghost} {w : World} {opn : List Bool} {gl : List (Addr × Value)} : ∀ {L L' : List (List AV)} (_ : WkLL L L') {base : List (List AV)}, Inv w0 G w ⟨base ++ L, opn, gl⟩ → Inv w0 G w ⟨base ++ L', opn, gl⟩
  | _, _, .nil, base, h => h
  | _, _, .cons (a := a) (b := b) (l := l) (m := m) hs hw t, base, h => by
    have h1 := h.wko (id := base.length) (c := a) (c' := b) (by simp) hs hw
    have h2 : (base ++ a :: l).set base.length b = (base ++ [b]) ++ l := by simp
    simp only [h2] at h1
    have h3 := Inv.wkoL t h1
    simpa using h3
theorem ACall.weaken {g : FuncId} {args : List AV} {K K' : AV → St → Prop} (h : ACall P g args σ K) (hk : ∀ a σ', K a σ' → ∃ σ1, (∀ w0 G w, Inv w0 G w σ' → Inv w0 G w σ1) ∧ K' a σ1) : ACall P g args σ K' :=
  ⟨h.1, fun w0 G w vs hI hr => (h.2 w0 G w vs hI hr).mono fun e w' ⟨v, a, σ', G', h1, h2, h3, h4, h5⟩ => by
    obtain ⟨σ1, k1, k2⟩ := hk a σ' h5
    exact ⟨v, a, σ1, G', h1, h2, k1 _ _ _ h3, h4, k2⟩⟩
def NewB {α : Type} (B : (Nat → Nat) → α → List (List AV)) (rest : List AV) (σ : St) : Option α → AV → St → Prop
  | none, a, τ => a = .tup (.nilp :: rest) ∧ τ = σ
  | some c, a, τ => a = .tup (.ref σ.objs.length 0 :: rest) ∧ τ = ⟨σ.objs ++ B (fun i => σ.objs.length + i) c, σ.opn, σ.gl⟩
def NewBE {α : Type} (B : (Nat → Nat) → α → List (List AV)) (rest : List AV) (σ : St) : Option α → AV → St → Prop
  | none, a, τ => a = .tup (.nilp :: rest) ∧ Holds σ [] [] τ
  | some c, a, τ => ∃ f : Nat → Nat, a = .tup (.ref (f 0) 0 :: rest) ∧ (∀ i, i < (B f c).length → σ.objs.length ≤ f i) ∧ Holds σ (zipB f 0 (B f c)) [] τ
theorem NewBE.some {α : Type} {B : (Nat → Nat) → α → List (List AV)} {rest : List AV} {σ τ : St} {c : α} (f : Nat → Nat) (h1 : ∀ i, i < (B f c).length → σ.objs.length ≤ f i) (h2 : Holds σ (zipB f 0 (B f c)) [] τ) : NewBE B rest σ (some c) (.tup (.ref (f 0) 0 :: rest)) τ := ⟨f, rfl, h1, h2⟩
theorem NewBE.none {α : Type} {B : (Nat → Nat) → α → List (List AV)} {rest : List AV} {σ τ : St} (h : Holds σ [] [] τ) : NewBE B rest σ none (.tup (.nilp :: rest)) τ := ⟨rfl, h⟩
variable {σ0 : St} {O : List (Nat × List AV)} {A' : List Nat} {fr : Nat → AV}
end
theorem Inv.reobj {w0 : World} {G : Ghost} {w : World} {σ : St} (h : Inv w0 G w σ) {id : Nat} {c c' : List AV} (hc : σ.objs[id]? = some c) (hsp : spcl c = false) (hne : c ≠ []) (hne' : c' ≠ []) (hr : ∀ b T vs, G.loc id = some b → w.heap[b]? = some (.cells vs T (0, 0)) → RelP G vs c → RelP G vs c') : Inv w0 G w ⟨σ.objs.set id c', σ.opn, σ.gl⟩ := by
  have hlt := (List.getElem?_eq_some_iff.1 hc).1
  obtain ⟨b0, T0, vs0, f1, f2, f3, f4, f5, f6⟩ := h.loc id c hc hne hsp
  have hr0 := hr b0 T0 vs0 f1 f3 f4
  have hat : ∀ (i : Nat) (d : List AV), (σ.objs.set id c')[i]? = some d → (i = id ∧ d = c') ∨ (i ≠ id ∧ σ.objs[i]? = some d) := by
    intro i d hd
    by_cases he : id = i
    · subst he
      rw [List.getElem?_set_self hlt] at hd
      exact .inl ⟨rfl, (Option.some.inj hd).symm⟩
    · rw [List.getElem?_set_ne he] at hd
      exact .inr ⟨Ne.symm he, hd⟩
  have hsome : ∀ (i : Nat) (d : List AV), (σ.objs.set id c')[i]? = some d → d ≠ [] → ∃ d', σ.objs[i]? = some d' ∧ d' ≠ [] := by
    intro i d hd hn
    rcases hat i d hd with ⟨rfl, rfl⟩ | ⟨_, e⟩
    · exact ⟨c, hc, hne⟩
    · exact ⟨d, e, hn⟩
  refine ⟨h.below, h.fz, fun i d hd hn hs => ?_, fun i b o d hl' hd hn => ?_, h.loclt, fun i b hl' => by simpa using h.locdom i b hl', fun i j b d e hi hj hd he hn hn' => ?_, fun t b top en ho ht => ?_, h.tokdom, h.tokinj, h.nt, h.lit, h.gl, h.sp_to (.refl G) (fun _ _ _ h => h) (fun i a h1 h2 => ?_)⟩
  · rcases hat i d hd with ⟨rfl, rfl⟩ | ⟨_, e⟩
    · exact ⟨b0, T0, vs0, f1, f2, f3, hr0, f5, f6⟩
    · exact h.loc i d e hn hs
  · obtain ⟨d', a1, a2⟩ := hsome i d hd hn
    exact h.locfz i b o d' hl' a1 a2
  · obtain ⟨d', a1, a2⟩ := hsome i d hd hn
    obtain ⟨e', b1, b2⟩ := hsome j e he hn'
    exact h.locinj i j b d' e' hi hj a1 b1 a2 b2
  · obtain ⟨e1, e2, e3, e4⟩ := h.tok t b top en ho ht
    refine ⟨e1, e2, e3, fun i hi => ?_⟩
    have h0 := e4 i hi
    by_cases he : id = i
    · subst he; rw [hc] at h0; exact absurd (Option.some.inj h0) hne
    · simp only; rw [List.getElem?_set_ne he]; exact h0
  · rcases hat i [a] h1 with ⟨rfl, e⟩ | ⟨_, e⟩
    · have hx := hr0.nsp
      rw [← e] at hx
      simp only [spcl] at hx
      rw [hx] at h2; cases h2
    · exact e
theorem RelL.set_at {G : Ghost} {vs : List Value} {cs : List AV} (h : RelL G vs cs) {j : Nat} {v : Value} {x : AV} (hv : vs[j]? = some v) (hx : Rel G v x) : RelL G vs (cs.set j x) := by
  have := h.set j hx
  obtain ⟨hlt, hg⟩ := List.getElem?_eq_some_iff.1 hv
  rwa [← hg, List.set_getElem_self] at this
theorem Inv.frzO {w0 : World} {G : Ghost} {w : World} {σ : St} (h : Inv w0 G w σ) {idm id j sz n : Nat} {c es : List AV} (hm : σ.objs[idm]? = some c) (hspm : spcl c = false) (hj : c[j]? = some (.vec id sz n)) (hc : σ.objs[id]? = some (flat es)) (hsp : spcl (flat es) = false) (hne : idm ≠ id) (hn : n = es.length) (hz : ∀ e ∈ es, e.cells.length = sz) (hs : sz ≠ 0) :
    ∃ G', G.Le G' ∧ Inv w0 G' w ⟨(σ.objs.set id []).set idm (c.set j (.sl (.own σ.opn.length) sz es)), σ.opn ++ [true], σ.gl⟩ := by
  have hcn : c ≠ [] := fun h0 => by subst h0; simp at hj
  have hjl : j < c.length := (List.getElem?_eq_some_iff.1 hj).1
  obtain ⟨b, T, vs, k1, k2, k3, k4, k5, k6⟩ := h.loc idm c hm hcn hspm
  obtain ⟨v, hv, hrv⟩ := k4.rel.get hj
  obtain ⟨G', hle, hI, hv'⟩ := frozen_rel h hrv hc hsp hn hz hs
  refine ⟨G', hle, ?_⟩
  have hm' : (σ.objs.set id [])[idm]? = some c := by rw [List.getElem?_set_ne (Ne.symm hne)]; exact hm
  refine hI.reobj (id := idm) hm' hspm hcn (fun h0 => hcn (by have := congrArg List.length h0; simp at this; exact this)) (fun b' T' vs' l1 l2 l3 => ?_)
  have hb : b' = b := by have := hle.loc _ _ k1; rw [this] at l1; exact (Option.some.inj l1).symm
  subst hb
  rw [k3] at l2
  injection l2 with l2
  injection l2 with l2 l4
  subst l2
  exact ⟨by rw [List.length_set]; exact l3.le, by rw [List.length_set]; exact l3.rel.set_at hv hv'⟩
section
variable {P : Program} {Ty : TypeId → Option TI} {n : Nat} {σ σ0 : St} {O : List (Nat × List AV)} {A : List Nat} {E : TypeId} {α : Type} {e : α → AV} {sz : Nat}
theorem AWP.frzF {cd : Code} {Q : AExit → (Nat → AV) → St → Prop} {l : List (Nat × AV)} (hH : Holds σ0 O A σ) (km ks j : Nat) {idm id m : Nat} {c : List AV} {x : List α} (hkm : O[km]? = some (idm, c)) (hks : O[ks]? = some (id, cL e x)) (hnw : σ0.objs.length ≤ id) (hne : km ≠ ks) (he : Enc Ty E sz e) (hj : c[j]? = some (.vec id sz m)) (hm : x.length = m)
    (h : ∀ tk τ, Holds σ0 ((O.set km (idm, c.set j (eT tk sz e x))).eraseIdx ks) (tk :: A) τ → AWP P n cd Q (Va.fm l) τ) (hsp : spcl c = false := by first | rfl | exact spcl_cL (by assumption) _) : AWP P n cd Q (Va.fm l) σ := fun w0 G a w hS => by
  have hid : idm ≠ id := dist_get hH.dist hkm hks hne
  obtain ⟨G', hle, hI⟩ := hS.inv.frzO (es := x.map e) (hH.at_ km hkm) hsp hj (hH.at_ ks hks) (spcl_cL he x) hid (by rw [List.length_map]; exact hm.symm) (fun y hy => by obtain ⟨z, _, rfl⟩ := List.mem_map.1 hy; exact he.len z) he.pos
  have h1 := hH.put km hkm (c.set j (eT σ.opn.length sz e x))
  have h2 := (h1.gone ks (by rw [List.getElem?_set_ne hne]; exact hks) hnw []).more
  simp only at h2
  have e1 : (σ.objs.set id []).set idm (c.set j (.sl (.own σ.opn.length) sz (x.map e))) = (σ.objs.set idm (c.set j (eT σ.opn.length sz e x))).set id [] := by
    rw [List.set_comm _ _ (Ne.symm hid)]; rfl
  rw [e1] at hI
  refine wp_mono (h _ _ h2 w0 G' a w ⟨hI, hS.frm.mono hle, hS.size, hS.defers⟩) ?_
  rintro ex a' w' ⟨ae, fr', σ', G2, k1, k2, k3, k4⟩
  exact ⟨ae, fr', σ', G2, k1, hle.trans k2, k3, k4⟩
end
section
variable {P : Program} {Ty : TypeId → Option TI} {σ σ0 : St} {O : List (Nat × List AV)} {A : List Nat} {fr : Nat → AV} {d : Option Tmp} {ty : TypeId} {pos : String} {af : Array Edge} {g : Option (Nat × Bool)} {ox oy : Operand} {T E : TypeId} {α : Type} {e : α → AV} {sz : Nat}
theorem WkL.flat {a b : AV} (h : WkL a.cells b.cells) : ∀ n, WkL (flat (List.replicate n a)) (flat (List.replicate n b))
  | 0 => .nil
  | n + 1 => by
    simp only [List.replicate_succ, flat_cons]
    exact h.append (WkL.flat h n)
end

theorem Holds.perm {σ0 σ : St} {O O' : List (Nat × List AV)} {A : List Nat} (h : Holds σ0 O A σ) (hp : O.Perm O') : Holds σ0 O' A σ :=
  ⟨fun id c h1 h2 => h.base id c h1 (fun p hm => h2 p (hp.mem_iff.1 hm)), h.opn, h.olen, h.tlen, fun p hm => h.obj p (hp.mem_iff.2 hm), (hp.pairwise_iff (fun h => Ne.symm h)).1 h.dist, h.tok, h.tdist, h.gl⟩
def chkFirst (B : Array Nat) (I : List Nat) (m n : Nat) : Bool := (List.range n).all fun k => decide (k < m) || I.all fun i => befB B k i
def chkAt (B : Array Nat) (S : List Nat) (i : Nat) : Bool := S.all fun s => s == i || (if s < i then befB B i s else befB B s i)
inductive PhK where
  | p
  | r
  | a (c : List AV)
  | t (O : Nat → List (Nat × List AV))
abbrev Ph := PhK × (Nat → AV)
def Ph.val (p : Ph) (id : Nat) : AV := match p.1 with
  | .a _ => p.2 id
  | _ => p.2 0
section
variable (P : Program) (σ0 : St) (A : List Nat)
def PhStep (ops : Array Oper) (S : List Nat) (i : Nat) (o : Oper) (p : Ph) (O : List (Nat × List AV)) (fr : Nat → AV) : Prop := match p.1 with
  | .a c => ∀ σ O', Holds σ0 O' A σ → ∃ id τ, AStep P ops o fr σ (p.2 id) τ ∧ (Holds σ0 ((id, c) :: O') A τ ∧ σ0.objs.length ≤ id)
  | .p => ∀ τ, AStep P ops o fr τ (p.2 0) τ
  | .r => chkAt (Region.before ops) S i = true ∧ ∀ X σ, Holds σ0 (O ++ X) A σ → AStep P ops o fr σ (p.2 0) σ
  | .t O' => S.contains i = true ∧ chkAt (Region.before ops) S i = true ∧ ∀ X σ, Holds σ0 (O ++ X) A σ → ∃ id τ, AStep P ops o fr σ (p.2 0) τ ∧ Holds σ0 (O' id ++ X) A τ ∧ σ0.objs.length ≤ id
def wpdU (ops : Array Oper) (S : List Nat) (K : (Nat → AV) → St → Prop) : Nat → List Oper → List Ph → List (Nat × List AV) → List (Nat × List AV) → (Nat → AV) → Prop
  | i, rest, [], acc, O, fr => ∀ σ, Holds σ0 (acc ++ O) A σ → wpdS P ops S K i rest fr σ
  | _, [], _ :: _, _, _, _ => False
  | i, o :: rest, p :: ps, acc, O, fr => PhStep P σ0 A ops S i o p O fr ∧ match p.1 with
    | .a c => ∀ id, σ0.objs.length ≤ id → wpdU ops S K (i + 1) rest ps ((id, c) :: acc) O (putO fr o.dst (p.2 id))
    | .t O' => ∀ id, σ0.objs.length ≤ id → wpdU ops S K (i + 1) rest ps acc (O' id) (putO fr o.dst (p.2 0))
    | _ => wpdU ops S K (i + 1) rest ps acc O (putO fr o.dst (p.2 0))
end
section
variable {P : Program} {w0 : World} {G : Ghost} {n : Nat} {σ0 : St} {O : List (Nat × List AV)} {A : List Nat} {ops : Array Oper} {S : List Nat}
def aasU (ps : List Ph) (ids : Nat → Nat) (k : Nat) : AV := match ps[k]? with
  | some p => p.val (ids k)
  | none => .junk
def isU (ps : List Ph) (k : Nat) : Bool := match ps[k]? with
  | some (.a _, _) => true
  | _ => false
def isT (ps : List Ph) (k : Nat) : Bool := match ps[k]? with
  | some (.t _, _) => true
  | _ => false
def isI (ps : List Ph) (k : Nat) : Bool := match ps[k]? with
  | some (.p, _) => false
  | some _ => true
  | none => false
def csU (ps : List Ph) (k : Nat) : List AV := match ps[k]? with
  | some (.a c, _) => c
  | _ => []
def OsU (ps : List Ph) (ids : Nat → Nat) (O : List (Nat × List AV)) : Nat → List (Nat × List AV)
  | 0 => O
  | i + 1 => match ps[i]? with
    | some (.t O', _) => O' (ids i)
    | _ => OsU ps ids O i
def accU (ps : List Ph) (ids : Nat → Nat) : Nat → List (Nat × List AV)
  | 0 => []
  | i + 1 => if isU ps i then (ids i, csU ps i) :: accU ps ids i else accU ps ids i
def lstU (ps : List Ph) : Nat → List Nat
  | 0 => []
  | i + 1 => if isU ps i then i :: lstU ps i else lstU ps i
theorem ClosedL.set {listed : Array Bool} (hc : ClosedL ops listed) {i : Nat} (hi : i ∈ Region.ready .any ops listed) : ClosedL ops (listed.setIfInBounds i true) := by
  obtain ⟨h0, o, ho, hall⟩ := mem_ready.1 hi
  intro k o' ho' hk e he hb
  by_cases hki : i = k
  · subst hki
    rw [ho] at ho'
    cases ho'
    exact getD_set_true (hall e he hb)
  · unfold Lst at hk
    rw [getD_set_ne false hki] at hk
    exact getD_set_true (hc k o' ho' hk e he hb)
end
section
variable {P : Program} {σ0 : St} {O : List (Nat × List AV)} {A : List Nat} {ops : Array Oper} {S : List Nat} {K : (Nat → AV) → St → Prop} {i : Nat} {o : Oper} {rest : List Oper} {ps : List Ph} {acc : List (Nat × List AV)} {l : List (Nat × AV)} {t : Tmp}
end
section
variable {P : Program} {Ty : TypeId → Option TI} {fr : Nat → AV} {σ : St} {d : Option Tmp} {ty T T' : TypeId} {pos : String} {af : Array Edge} {gd : Option (Nat × Bool)} {ox oy : Operand}
theorem OpP.of_run {o : Oper} {a : AV} (h : ∀ (G : Ghost) (ρ : Operand → Value) (w : World), (∀ x ∈ o.op.operands, Rel G (ρ x) (aeval fr x)) → ∃ v, (execOp ρ o).run P w = .ok (.value v) w ∧ Rel G v a) : OpP P o fr a := fun τ w0 G act w Q K' hI hr hK => by
  obtain ⟨v, h1, h2⟩ := h G act.eval w hr
  unfold Oper.wp
  rw [h1]
  exact hK v a τ w G ⟨rfl, rfl⟩ (.refl G) hI h2
def chr1 (x : BitVec 8) : Option (List (BitVec 8)) := if x.toNat < 128 then some [x] else none
theorem o_ta {t : TypeId} {b c : AV} {z : Value → Value} (hx : aeval fr ox = .iface t b) (hr : ∀ v w, (Instr.typeAssert (.iface t v) T T' true).run P w = .ok (.tuple #[z v, .bool true]) w) (hz : ∀ G v, Rel G v b → Rel G (z v) c) : OpP P ⟨d, .typeAssert ox T T' true, ty, pos, af, gd⟩ fr (.tup [c, .bool true]) := by
  refine OpP.of_run fun G ρ w hr' => ?_
  have h1 := hr' ox (by simp [Op.operands])
  rw [hx] at h1
  generalize hv : ρ ox = v at h1
  cases h1 with
  | iface _ u _ hu =>
    refine ⟨.tuple #[z u, .bool true], ?_, .tup _ _ rfl fun i v a e1 e2 => ?_⟩
    · simp [execOp, hv, hr, Result.andThen]
    · match i, e1, e2 with
      | 0, e1, e2 => cases e1; cases e2; exact hz G u hu
      | 1, e1, e2 => cases e1; cases e2; exact .bool true
theorem o_ifne (hT : TyOk P Ty) {t u : TypeId} {b c : AV} (ht : tdOf Ty T = .iface) (hx : aeval fr ox = .iface t b) (hy : aeval fr oy = .iface u c) (hne : t ≠ u) : OpP P ⟨d, .binOp .eql T ox oy T', ty, pos, af, gd⟩ fr (eB false) := by
  obtain ⟨ms, hu⟩ : ∃ ms, P.underlying T = some (.interface ms) := tdOf_ok hT ht (by simp)
  refine OpP.of_run fun G ρ w hr' => ?_
  have h1 := hr' ox (by simp [Op.operands])
  have h2 := hr' oy (by simp [Op.operands])
  rw [hx] at h1
  rw [hy] at h2
  generalize hv : ρ ox = v at h1
  generalize hw : ρ oy = v' at h2
  cases h1 with
  | iface _ a _ _ =>
    cases h2 with
    | iface _ a' _ _ =>
      refine ⟨.bool false, ?_, .bool false⟩
      have := run_eql_iface_types (P := P) t u a a' hu hne w
      have h3 := eqGuard_bare (P := P) (w := w) .eql T ox oy (.iface t a) (.iface u a') (by simp) (by simp)
      simp [execOp, hv, hw, this, h3, Result.andThen]
theorem inv_run {o : Oper} {c : Call} {f : Operand} {name : String} {n : Nat} {g : FuncId} {t : TypeId} {v : Value} {ρ : Operand → Value} (ho : o.op = .call c) (hc : c.callee = .invoke f name) (hf : ρ f = .iface t v) (hn : P.types.size + Made.depth = n) (w : World) (hm : (Go.method n t v name).run P w = .ok (g, v) w) :
    (execOp ρ o).run P w = (callFunc g (v :: c.args.toList.map ρ).toArray).run P w := by
  subst hn
  have hargs : (#[v] ++ (c.args.map ρ)) = (v :: c.args.toList.map ρ).toArray := by apply Array.ext'; simp
  have hargs2 : (#[Value.iface t v] ++ c.args.map ρ).extract 1 (#[Value.iface t v] ++ c.args.map ρ).size = c.args.map ρ := by
    apply Array.ext'
    simp
    exact List.take_of_length_le (by simp)
  have ht : List.take c.args.size (List.map ρ c.args.toList) = List.map ρ c.args.toList := List.take_of_length_le (by simp)
  rw [← hargs]
  simp [execOp, ho, resolve, hc, hf, invoke, callMethod, program, Sem.run, Result.andThen, ht] at hm ⊢
  have h0 : (#[Value.iface t v] ++ c.args.map ρ)[0]? = some (.iface t v) := by rw [Array.getElem?_append_left (Nat.zero_lt_one)]; rfl
  have h9 : (c.args.map ρ).extract 0 c.args.size = c.args.map ρ := by
    apply Array.ext'
    simp [ht]
  rw [h0]
  simp only [h9]
  show Sem.run P (Bind.bind (Sem.program Sem.pure) _) w = _
  rw [Sem.run_bind]
  show Sem.run P (Bind.bind (method (P.types.size + Made.depth) t v name) _) w = _
  rw [Sem.run_bind, hm]
  rfl
theorem OpS.of_invoke {o : Oper} {c : Call} {f : Operand} {name : String} {n : Nat} {g : FuncId} {t : TypeId} {b : AV} {args : List AV} {K : AV → St → Prop} (ho : o.op = .call c) (hc : c.callee = .invoke f name) (hf : aeval fr f = .iface t b) (hn : P.types.size + Made.depth = n) (hm : ∀ v w, (Go.method n t v name).run P w = .ok (g, v) w)
    (hargs : WkL (b :: c.args.toList.map (aeval fr)) args) (hcall : ACall P g args σ K) : OpS P o fr σ K := by
  intro w0 G act w Q K' hI hr hK
  have h := hcall.wk hargs
  have hmem : f ∈ o.op.operands ∧ ∀ y ∈ c.args.toList, y ∈ o.op.operands := by
    rw [ho]
    simp only [Op.operands, Call.operands, hc]
    exact ⟨by simp, fun y hy => Array.mem_append.2 (.inr (Array.mem_toList_iff.1 hy))⟩
  have hrf := hr f hmem.1
  rw [hf] at hrf
  generalize hfv : act.eval f = vf at hrf
  cases hrf with
  | iface _ v _ hv =>
    obtain ⟨fn, k1, k2, k3⟩ := h.1
    have hb : ¬ fn.body = none := fun hb => by rw [hb] at k3; cases k3
    unfold Oper.wp
    rw [inv_run ho hc hfv hn w (hm v w)]
    have hcf : (callFunc g (v :: c.args.toList.map act.eval).toArray).run P w = .ok (.enter g (v :: c.args.toList.map act.eval).toArray) w := by
      simp [callFunc, program, Sem.run, k1, k2, hb]
    rw [hcf]
    simp only [Oper.upon]
    have hl3 : RelL G (c.args.toList.map act.eval) (c.args.toList.map (aeval fr)) := ⟨by simp, fun i v x e1 e2 => by
      rw [List.getElem?_map] at e1 e2
      cases hx : c.args.toList[i]? with
      | none => rw [hx] at e1; cases e1
      | some y => rw [hx] at e1 e2; cases e1; cases e2; exact hr y (hmem.2 y (List.mem_of_getElem? hx))⟩
    refine (h.2 w0 G w _ hI (by simpa using RelL.cons hv hl3)).mono ?_
    rintro e w' ⟨v, x, σ', G', rfl, k1, k2, k3, k4⟩
    exact hK v x σ' w' G' k4 k1 k2 k3
end

def Ghost.also (G : Ghost) (id new : Nat) : Ghost := { fz := G.fz, loc := fun i => if i = new then G.loc id else G.loc i, tok := G.tok, nt := G.nt, lit := G.lit, bsz := fun i => if i = new then G.bsz id else G.bsz i }
theorem Inv.also {w0 : World} {G : Ghost} {w : World} {σ : St} (h : Inv w0 G w σ) {id : Nat} {c : List AV} (hc : σ.objs[id]? = some c) : G.Le (G.also id σ.objs.length) ∧ Inv w0 (G.also id σ.objs.length) w ⟨σ.objs.set id [] ++ [c], σ.opn, σ.gl⟩ := by
  have hid := (List.getElem?_eq_some_iff.1 hc).1
  have hnew : ∀ b, G.loc σ.objs.length ≠ some b := fun b hb => by have := h.locdom _ _ hb; omega
  have hle : G.Le (G.also id σ.objs.length) := ⟨fun _ _ _ h => h, fun i b hi => by
    have : i ≠ σ.objs.length := fun e => by subst e; exact hnew b hi
    simp only [Ghost.also, if_neg this]; exact hi, fun _ _ h => h, Nat.le_refl _, fun _ h => h, fun i b hi => by
    have : i ≠ σ.objs.length := fun e => by subst e; exact hnew b hi
    simp only [Ghost.also, if_neg this]⟩
  have hat : ∀ (i : Nat) (d : List AV), (σ.objs.set id [] ++ [c])[i]? = some d → (i = σ.objs.length ∧ d = c) ∨ (i = id ∧ d = []) ∨ (i ≠ id ∧ i < σ.objs.length ∧ σ.objs[i]? = some d) := by
    intro i d hd
    by_cases hi : i < σ.objs.length
    · rw [List.getElem?_append_left (by simpa using hi)] at hd
      by_cases he : id = i
      · subst he
        rw [List.getElem?_set_self hid] at hd
        exact .inr (.inl ⟨rfl, (Option.some.inj hd).symm⟩)
      · rw [List.getElem?_set_ne he] at hd
        exact .inr (.inr ⟨Ne.symm he, hi, hd⟩)
    · rw [List.getElem?_append_right (by simpa using hi)] at hd
      have hl := (List.getElem?_eq_some_iff.1 hd).1
      simp only [List.length_set, List.length_singleton] at hl
      have e : i = σ.objs.length := by omega
      subst e
      simp at hd
      exact .inl ⟨rfl, hd.symm⟩
  have hloc : ∀ i b, (G.also id σ.objs.length).loc i = some b → (i = σ.objs.length ∧ G.loc id = some b) ∨ (i ≠ σ.objs.length ∧ G.loc i = some b) := by
    intro i b hi
    simp only [Ghost.also] at hi
    split at hi
    · exact .inl ⟨‹_›, hi⟩
    · exact .inr ⟨‹_›, hi⟩
  refine ⟨hle, ⟨h.below, h.fz, fun i d hd hn hs => ?_, fun i b o d hl hd hn => ?_, fun i b hl => ?_, fun i b hl => ?_, fun i j b d e hi hj hd he hn hn' => ?_, fun t b top en ho ht => ?_, h.tokdom, h.tokinj, h.nt, fun b hb => ?_, h.gl, fun i a hi hs => ?_⟩⟩
  · rcases hat i d hd with ⟨rfl, rfl⟩ | ⟨rfl, rfl⟩ | ⟨k1, k2, k3⟩
    · obtain ⟨b, T, vs, e1, e2, e3, e4, e5, e6⟩ := h.loc id d hc hn hs
      exact ⟨b, T, vs, by simp only [Ghost.also, if_true]; exact e1, e2, e3, e4.mono hle, e5, by simp only [Ghost.also, if_true]; exact e6⟩
    · exact absurd rfl hn
    · obtain ⟨b, T, vs, e1, e2, e3, e4, e5, e6⟩ := h.loc i d k3 hn hs
      exact ⟨b, T, vs, hle.loc _ _ e1, e2, e3, e4.mono hle, e5, e6.trans (hle.bsz _ _ e1).symm⟩
  · rcases hloc i b hl with ⟨rfl, k⟩ | ⟨k1, k⟩ <;> rcases hat _ d hd with ⟨e1, rfl⟩ | ⟨rfl, rfl⟩ | ⟨e1, e2, e3⟩
    · exact h.locfz id b o _ k hc hn
    · exact absurd rfl hn
    · omega
    · exact absurd e1 k1
    · exact absurd rfl hn
    · exact h.locfz i b o d k e3 hn
  · rcases hloc i b hl with ⟨rfl, k⟩ | ⟨k1, k⟩ <;> exact h.loclt _ b k
  · rcases hloc i b hl with ⟨rfl, k⟩ | ⟨k1, k⟩
    · simp
    · have := h.locdom _ b k; simp; omega
  · have key : ∀ (i : Nat) (d : List AV), (G.also id σ.objs.length).loc i = some b → (σ.objs.set id [] ++ [c])[i]? = some d → d ≠ [] → ∃ i', G.loc i' = some b ∧ σ.objs[i']? = some d ∧ ((i = σ.objs.length ∧ i' = id) ∨ (i ≠ σ.objs.length ∧ i' = i ∧ i ≠ id)) := by
      intro i d hi hd hn
      rcases hloc i b hi with ⟨rfl, k⟩ | ⟨k1, k⟩ <;> rcases hat _ d hd with ⟨e1, rfl⟩ | ⟨rfl, rfl⟩ | ⟨e1, e2, e3⟩
      · exact ⟨id, k, hc, .inl ⟨rfl, rfl⟩⟩
      · exact absurd rfl hn
      · omega
      · exact absurd e1 k1
      · exact absurd rfl hn
      · exact ⟨i, k, e3, .inr ⟨k1, rfl, e1⟩⟩
    obtain ⟨i', a1, a2, a3⟩ := key i d hi hd hn
    obtain ⟨j', b1, b2, b3⟩ := key j e hj he hn'
    have hij := h.locinj i' j' b d e a1 b1 a2 b2 hn hn'
    subst hij
    rcases a3 with ⟨p1, p2⟩ | ⟨p1, p2, p3⟩ <;> rcases b3 with ⟨q1, q2⟩ | ⟨q1, q2, q3⟩
    · omega
    · exact absurd (q2.symm.trans p2) q3
    · exact absurd (p2.symm.trans q2) p3
    · omega
  · obtain ⟨e1, e2, e3, e4⟩ := h.tok t b top en ho ht
    refine ⟨e1, e2, e3, fun i hi => ?_⟩
    rcases hloc i b hi with ⟨rfl, k⟩ | ⟨k1, k⟩
    · have := e4 id k
      rw [hc] at this
      obtain rfl := Option.some.inj this
      simp
    · have := e4 i k
      have hil := (List.getElem?_eq_some_iff.1 this).1
      simp only
      rw [List.getElem?_append_left (by simpa using hil)]
      by_cases he : id = i
      · subst he; rw [List.getElem?_set_self hid]
      · rw [List.getElem?_set_ne he]; exact this
  · obtain ⟨e1, e2, e3, e4⟩ := h.lit b hb
    exact ⟨e1, e2, fun i hi => by rcases hloc i b hi with ⟨_, k⟩ | ⟨_, k⟩ <;> exact e3 _ k, e4⟩
  · rcases hat i [a] hi with ⟨rfl, e⟩ | ⟨rfl, e⟩ | ⟨k1, k2, k3⟩
    · obtain ⟨b, o, e1, e2, e3, e4⟩ := h.sp id a (by rw [hc, e]) hs
      exact ⟨b, o, by simp only [Ghost.also, if_true]; exact e1, e2, e3, e4.mono hle⟩
    · cases e
    · obtain ⟨b, o, e1, e2, e3, e4⟩ := h.sp i a k3 hs
      exact ⟨b, o, hle.loc _ _ e1, e2, e3, e4.mono hle⟩
theorem Holds.moved {σ0 σ : St} {O : List (Nat × List AV)} {A : List Nat} (h : Holds σ0 O A σ) (k : Nat) {id : Nat} {c : List AV} (hk : O[k]? = some (id, c)) (c' : List AV) : Holds σ0 ((σ.objs.length, c') :: O.set k (id, [])) A ⟨σ.objs.set id [] ++ [c'], σ.opn, σ.gl⟩ := by
  have h1 := (h.put k hk []).add c'
  simpa using h1
section
variable {P : Program} {n : Nat} {σ σ0 : St} {O : List (Nat × List AV)} {A : List Nat}
theorem AWP.renF {cd : Code} {Q : AExit → (Nat → AV) → St → Prop} {l : List (Nat × AV)} (hH : Holds σ0 O A σ) (km ks j : Nat) {idm id : Nat} {c cs : List AV} {g : Nat → AV} (hkm : O[km]? = some (idm, c)) (hks : O[ks]? = some (id, cs)) (hne : km ≠ ks) (hj : c[j]? = some (g id)) (hg : ∀ G i v, id ≠ i → Rel (Ghost.also G id i) v (g id) → Rel (G.also id i) v (g i))
    (h : ∀ id' τ, Holds σ0 ((id', cs) :: (O.set km (idm, c.set j (g id'))).set ks (id, [])) A τ → σ0.objs.length ≤ id' → AWP P n cd Q (Va.fm l) τ) (hsp : spcl c = false := by first | rfl | exact spcl_cL (by assumption) _) : AWP P n cd Q (Va.fm l) σ := fun w0 G a w hS => by
  have hid : idm ≠ id := dist_get hH.dist hkm hks hne
  have hlt := (List.getElem?_eq_some_iff.1 (hH.at_ ks hks)).1
  have hltm := (List.getElem?_eq_some_iff.1 (hH.at_ km hkm)).1
  obtain ⟨hle, hI⟩ := hS.inv.also (hH.at_ ks hks)
  have hcn : c ≠ [] := fun h0 => by subst h0; simp at hj
  have hm' : (σ.objs.set id [] ++ [cs])[idm]? = some c := by
    rw [List.getElem?_append_left (by simpa using hltm), List.getElem?_set_ne (Ne.symm hid)]; exact hH.at_ km hkm
  have hI2 := hI.reobj (id := idm) (c' := c.set j (g σ.objs.length)) hm' hsp hcn (fun h0 => hcn (by have := congrArg List.length h0; simp at this; exact this)) (fun b T vs l1 l2 l3 => by
    obtain ⟨v, hv, hrv⟩ := l3.rel.get hj
    exact ⟨by rw [List.length_set]; exact l3.le, by rw [List.length_set]; exact l3.rel.set_at hv (hg G _ _ (by omega) hrv)⟩)
  have hH2 := (hH.put km hkm (c.set j (g σ.objs.length))).moved ks (by rw [List.getElem?_set_ne hne]; exact hks) cs
  simp only [List.length_set] at hH2
  have e1 : (σ.objs.set id [] ++ [cs]).set idm (c.set j (g σ.objs.length)) = (σ.objs.set idm (c.set j (g σ.objs.length))).set id [] ++ [cs] := by
    rw [List.set_append_left _ _ (by simpa using hltm), List.set_comm _ _ (Ne.symm hid)]
  simp only [e1] at hI2
  refine wp_mono (h _ _ hH2 hH.olen w0 _ a w ⟨hI2, hS.frm.mono hle, hS.size, hS.defers⟩) ?_
  rintro ex a' w' ⟨ae, fr', σ', G2, k1, k2, k3, k4⟩
  exact ⟨ae, fr', σ', G2, k1, hle.trans k2, k3, k4⟩
theorem AWP.vecF {cd : Code} {Q : AExit → (Nat → AV) → St → Prop} {l : List (Nat × AV)} (hH : Holds σ0 O A σ) (km : Nat) {idm : Nat} {c : List AV} (c1 : Nat → List AV) (hkm : O[km]? = some (idm, c)) (hw : ∀ id, WkL c (c1 id))
    (h : ∀ id τ, Holds σ0 ((id, []) :: O.set km (idm, c1 id)) A τ → σ0.objs.length ≤ id → AWP P n cd Q (Va.fm l) τ) (hsp : spcl c = false := by first | rfl | exact spcl_cL (by assumption) _) : AWP P n cd Q (Va.fm l) σ := fun w0 G a w hS => by
  have h1 := hS.inv.addNone.wko (id := idm) (c := c) (c' := c1 σ.objs.length) (by simp only; rw [List.getElem?_append_left (List.getElem?_eq_some_iff.1 (hH.at_ km hkm)).1]; exact hH.at_ km hkm) hsp (hw _)
  have h2 := (hH.put km hkm (c1 σ.objs.length)).add []
  have e1 : (σ.objs ++ [[]]).set idm (c1 σ.objs.length) = σ.objs.set idm (c1 σ.objs.length) ++ [[]] := List.set_append_left _ _ (List.getElem?_eq_some_iff.1 (hH.at_ km hkm)).1
  simp only [e1] at h1
  simp only [List.length_set] at h2
  exact h _ _ h2 hH.olen w0 G a w ⟨h1, hS.frm, hS.size, hS.defers⟩
end
def St.shut (σ : St) (cl : List Nat) : St := ⟨σ.objs, cl.foldl (fun o t => o.set t false) σ.opn, σ.gl⟩
theorem shut_len (cl : List Nat) : ∀ o : List Bool, (cl.foldl (fun o t => o.set t false) o).length = o.length := by
  induction cl with
  | nil => intro o; rfl
  | cons t cl ih => intro o; simp [ih]
def St.grow (σ : St) (B : List (Nat × List AV)) (L : List (List AV)) (cl : List Nat) (m : Nat) : St := ⟨(σ.puts B).objs ++ L, (σ.shut cl).opn ++ List.replicate m true, σ.gl⟩
theorem ren_names (n m : Nat) (f : Nat → Nat) (hf : ∀ k, k < m → n ≤ f k) (hinj : ∀ i j, i < m → j < m → f i = f j → i = j) :
    ∃ ρ : Nat → Option Nat, Inj ρ ∧ (∀ k, k < m → ρ (f k) = some (n + k)) ∧ (∀ i, i < n → ρ i = some i) ∧ (∀ i j, ρ i = some j → (∃ k, k < m ∧ f k = i ∧ j = n + k) ∨ (i = j ∧ j < n)) := by
  let ρ : Nat → Option Nat := fun i => match (List.range m).find? (fun k => decide (f k = i)) with | some k => some (n + k) | none => idl n i
  have hρ : ∀ k, k < m → ρ (f k) = some (n + k) := fun k hk => by
    show (match (List.range m).find? (fun k' => decide (f k' = f k)) with | some k => some (n + k) | none => idl n (f k)) = _
    cases hfd : (List.range m).find? (fun k' => decide (f k' = f k)) with
    | none =>
      have := List.find?_eq_none.1 hfd k (List.mem_range.2 hk)
      simp at this
    | some k' =>
      have h1 := List.find?_some hfd
      have h2 := List.mem_range.1 (List.mem_of_find?_eq_some hfd)
      simp only [decide_eq_true_eq] at h1
      rw [hinj k' k h2 hk h1]
  have hold : ∀ i, (∀ k, k < m → f k ≠ i) → ρ i = idl n i := fun i hi => by
    show (match (List.range m).find? (fun k' => decide (f k' = i)) with | some k => some (n + k) | none => idl n i) = _
    cases hfd : (List.range m).find? (fun k' => decide (f k' = i)) with
    | none => rfl
    | some k' =>
      have h1 := List.find?_some hfd
      have h2 := List.mem_range.1 (List.mem_of_find?_eq_some hfd)
      simp only [decide_eq_true_eq] at h1
      exact absurd h1 (hi k' h2)
  have hcase : ∀ i j, ρ i = some j → (∃ k, k < m ∧ f k = i ∧ j = n + k) ∨ (i = j ∧ j < n) := fun i j h => by
    by_cases hx : ∃ k, k < m ∧ f k = i
    · obtain ⟨k, hk, rfl⟩ := hx
      rw [hρ k hk] at h
      exact .inl ⟨k, hk, rfl, (Option.some.inj h).symm⟩
    · rw [hold i (fun k hk e => hx ⟨k, hk, e⟩)] at h
      exact .inr (idl_lt h)
  refine ⟨ρ, fun i i' j h1 h2 => ?_, hρ, fun i hi => ?_, hcase⟩
  · rcases hcase i j h1 with ⟨k, hk, e1, e2⟩ | ⟨e1, e2⟩ <;> rcases hcase i' j h2 with ⟨k', hk', e3, e4⟩ | ⟨e3, e4⟩
    · have : k = k' := by omega
      subst this
      rw [← e1, ← e3]
    · omega
    · omega
    · rw [e1, e3]
  · rw [hold i (fun k hk e => by have := hf k hk; omega)]
    simp [idl, hi]
theorem puts_at : ∀ (M : List (Nat × List AV)) (o : List (List AV)), M.Pairwise (fun p q => p.1 ≠ q.1) → ∀ p ∈ M, p.1 < o.length → (M.foldl (fun o p => o.set p.1 p.2) o)[p.1]? = some p.2
  | [], _, _, p, hp, _ => by cases hp
  | q :: M, o, hd, p, hp, hl => by
    have hd' := List.pairwise_cons.1 hd
    simp only [List.foldl_cons]
    rcases List.mem_cons.1 hp with rfl | hp
    · have key : ∀ (M : List (Nat × List AV)) (o : List (List AV)) (i : Nat) (c : List AV), (∀ q ∈ M, i ≠ q.1) → o[i]? = some c → (M.foldl (fun o p => o.set p.1 p.2) o)[i]? = some c := by
        intro M
        induction M with
        | nil => intro o i c _ h; exact h
        | cons q M ih =>
          intro o i c hn h
          exact ih _ i c (fun r hr => hn r (List.mem_cons_of_mem _ hr)) (by rw [List.getElem?_set_ne (Ne.symm (hn q List.mem_cons_self))]; exact h)
      exact key M _ p.1 p.2 hd'.1 (List.getElem?_set_self hl)
    · exact puts_at M _ hd'.2 p hp (by simpa using hl)
theorem puts_other : ∀ (M : List (Nat × List AV)) (o : List (List AV)) (i : Nat), (∀ q ∈ M, i ≠ q.1) → (M.foldl (fun o p => o.set p.1 p.2) o)[i]? = o[i]?
  | [], _, _, _ => rfl
  | q :: M, o, i, hn => by
    simp only [List.foldl_cons]
    rw [puts_other M _ i (fun r hr => hn r (List.mem_cons_of_mem _ hr)), List.getElem?_set_ne (Ne.symm (hn q List.mem_cons_self))]
inductive WkM : List (Nat × List AV) → List (Nat × List AV) → Prop where
  | nil : WkM [] []
  | cons {i : Nat} {a b : List AV} {l m : List (Nat × List AV)} (hs : spcl a = false) (h : WkL a b) (t : WkM l m) : WkM ((i, a) :: l) ((i, b) :: m)
theorem WkM.fst : ∀ {l m : List (Nat × List AV)}, WkM l m → l.map (·.1) = m.map (·.1)
  | _, _, .nil => rfl
  | _, _, .cons _ _ t => by simp [t.fst]
theorem Inv.wkoM {w0 : World} {G : Ghost} {w : World} {opn : List Bool} {gl : List (Addr × Value)} : ∀ {M M' : List (Nat × List AV)} (_ : WkM M M') {X : List (List AV)}, M.Pairwise (fun p q => p.1 ≠ q.1) → (∀ p ∈ M, X[p.1]? = some p.2) → Inv w0 G w ⟨X, opn, gl⟩ → Inv w0 G w ⟨M'.foldl (fun o p => o.set p.1 p.2) X, opn, gl⟩
  | _, _, .nil, X, _, _, h => h
  | _, _, .cons (i := i) (a := a) (b := b) hs hw t, X, hd, hX, h => by
    have h1 := h.wko (id := i) (c := a) (c' := b) (hX (i, a) List.mem_cons_self) hs hw
    have hd' := List.pairwise_cons.1 hd
    simp only [List.foldl_cons]
    exact Inv.wkoM t hd'.2 (fun p hp => by rw [List.getElem?_set_ne (hd'.1 p hp)]; exact hX p (List.mem_cons_of_mem _ hp)) h1
theorem foldl_set_append (L : List (List AV)) : ∀ (M : List (Nat × List AV)) (o : List (List AV)), (∀ p ∈ M, p.1 < o.length) → M.foldl (fun o p => o.set p.1 p.2) (o ++ L) = M.foldl (fun o p => o.set p.1 p.2) o ++ L
  | [], _, _ => rfl
  | q :: M, o, h => by
    simp only [List.foldl_cons]
    rw [List.set_append_left _ _ (h q List.mem_cons_self)]
    exact foldl_set_append L M _ (fun p hp => by simpa using h p (List.mem_cons_of_mem _ hp))
theorem foldl_set_twice {M M' : List (Nat × List AV)} (he : M.map (·.1) = M'.map (·.1)) (hd : M'.Pairwise fun p q => p.1 ≠ q.1) (o : List (List AV)) (hl : ∀ p ∈ M', p.1 < o.length) : M'.foldl (fun o p => o.set p.1 p.2) (M.foldl (fun o p => o.set p.1 p.2) o) = M'.foldl (fun o p => o.set p.1 p.2) o := by
  apply List.ext_getElem?
  intro i
  by_cases hi : ∃ p ∈ M', p.1 = i
  · obtain ⟨p, hp, rfl⟩ := hi
    rw [puts_at M' _ hd p hp (by rw [puts_len]; exact hl p hp), puts_at M' _ hd p hp (hl p hp)]
  · have hn : ∀ q ∈ M', i ≠ q.1 := fun q hq e => hi ⟨q, hq, e.symm⟩
    rw [puts_other M' _ i hn, puts_other M' _ i hn, puts_other M]
    intro q hq e
    have : q.1 ∈ M'.map (·.1) := by rw [← he]; exact List.mem_map_of_mem hq
    obtain ⟨r, hr, e2⟩ := List.mem_map.1 this
    exact hn r hr (e.trans e2.symm)
section
variable {P : Program} {σ : St}
theorem ACall.outG {g : FuncId} {args : List AV} {b : AV} {X : Type} {B : X → (Nat → Nat) → (Nat → Nat) → List (Nat × List AV)} {L : X → List (List AV)} (cl : List Nat) (m : Nat) (hb : ∀ ρ κ, cutAV ρ κ b = b) (hL : ∀ x, ∀ c ∈ L x, ∀ ρ κ, cutL ρ κ c = c) (hBi : ∀ x f g, ∀ p ∈ B x f g, p.1 < σ.objs.length)
    (hBc : ∀ x ρ κ f f' g g', (∀ i, i < (L x).length → ρ (f i) = some (f' i)) → (∀ i, i < m → κ (g i) = some (g' i)) → (∀ i, i < σ.objs.length → ρ i = some i) → WkM ((B x f g).map fun p => (p.1, cutL ρ κ p.2)) (B x f' g'))
    (h : ACall P g args σ (fun a τ => a = b ∧ ∃ (x : X) (f g : Nat → Nat), (∀ i, i < (L x).length → σ.objs.length ≤ f i) ∧ Holds (σ.shut cl) (zipB f 0 (L x) ++ B x f g) ((List.range m).map g) τ)) :
    ACall P g args σ (fun a τ => a = b ∧ ∃ x : X, τ = σ.grow (B x (fun i => σ.objs.length + i) (fun i => σ.opn.length + i)) (L x) cl m) := by
  have hq : (σ.shut cl).opn.length = σ.opn.length := shut_len cl _
  refine ACall.weaken (K := fun a τ => a = b ∧ ∃ (x : X) (B' : List (Nat × List AV)), WkM B' (B x (fun i => σ.objs.length + i) (fun i => σ.opn.length + i)) ∧ B'.Pairwise (fun p q => p.1 ≠ q.1) ∧ (∀ p ∈ B', p.1 < σ.objs.length) ∧ τ = σ.grow B' (L x) cl m) ?_ (fun a τ ⟨h0, x, B', h1, h2, h3, h4⟩ => ⟨_, fun w0 G w hI => ?_, h0, x, rfl⟩)
  · refine h.ren fun a τ ⟨ha, x, f, g, hf, hH⟩ => ?_
    subst ha
    have hzk : ∀ k, k < (L x).length → ∃ y, (L x)[k]? = some y ∧ (zipB f 0 (L x) ++ B x f g)[k]? = some (f k, y) := fun k hk => by
      have hx : (L x)[k]? = some ((L x)[k]'hk) := List.getElem?_eq_getElem _
      have hz : (zipB f 0 (L x))[k]? = some (f k, (L x)[k]'hk) := by rw [zipB_get, hx, Nat.zero_add]; rfl
      refine ⟨_, hx, ?_⟩
      rw [List.getElem?_append_left (List.getElem?_eq_some_iff.1 hz).1]
      exact hz
    have hfinj : ∀ i j, i < (L x).length → j < (L x).length → f i = f j → i = j := fun i j hi hj e => by
      obtain ⟨y1, _, hx⟩ := hzk i hi
      obtain ⟨y2, _, hy⟩ := hzk j hj
      exact Classical.byContradiction fun hn => dist_get hH.dist hx hy hn e
    have hgk : ∀ k, k < m → ((List.range m).map g)[k]? = some (g k) := fun k hk => by simp [hk]
    have hginj : ∀ i j, i < m → j < m → g i = g j → i = j := fun i j hi hj e => Classical.byContradiction fun hn => tdist_get hH.tdist (hgk i hi) (hgk j hj) hn e
    obtain ⟨ρ, r1, r2, r3, r4⟩ := ren_names σ.objs.length (L x).length f hf hfinj
    obtain ⟨κ, s1, s2, s3, s4⟩ := ren_names σ.opn.length m g (fun k hk => by have := (hH.tok (g k) (List.mem_of_getElem? (hgk k hk))).2; rw [hq] at this; exact this) hginj
    have hmap := hBc x ρ κ f (fun i => σ.objs.length + i) g (fun i => σ.opn.length + i) r2 s2 r3
    have hBd : (B x f g).Pairwise fun p q => p.1 ≠ q.1 := (List.pairwise_append.1 hH.dist).2.1
    refine ⟨σ.grow ((B x f g).map fun p => (p.1, cutL ρ κ p.2)) (L x) cl m, a, ρ, κ, ⟨r1, s1, r3, s3, fun i j h => ?_, fun t u h => ?_, ?_, rfl, fun j d hj => ?_, fun t u h hu => ?_⟩, (by rw [hb]; exact .refl _), rfl, x, _, hmap, ?_, ?_, rfl⟩
    · simp only [St.grow, St.puts, List.length_append, puts_len]
      rcases r4 i j h with ⟨k, hk, e1, e2⟩ | ⟨e1, e2⟩ <;> omega
    · simp only [St.grow, List.length_append, hq, List.length_replicate]
      rcases s4 t u h with ⟨k, hk, e1, e2⟩ | ⟨e1, e2⟩ <;> omega
    · simp only [St.grow, List.length_append, hq]; omega
    · simp only [St.grow, St.puts] at hj
      by_cases hlt : j < σ.objs.length
      · rw [List.getElem?_append_left (by rw [puts_len]; exact hlt)] at hj
        rcases puts_get _ σ.objs j d hj with h1 | ⟨h1, h2⟩
        · obtain ⟨p, hp, e⟩ := List.mem_map.1 h1
          simp only [Prod.mk.injEq] at e
          obtain ⟨rfl, rfl⟩ := e
          exact ⟨p.1, p.2, r3 _ hlt, hH.obj p (List.mem_append_right _ hp), .inr rfl⟩
        · refine ⟨j, d, r3 _ hlt, hH.base j d h1 (fun p hp => ?_), .inl ⟨h1, rfl⟩⟩
          rcases List.mem_append.1 hp with hp | hp
          · obtain ⟨k, hk, e1, e2⟩ := zipB_mem hp
            have := hf k hk
            rw [e1, Nat.zero_add]
            omega
          · exact h2 (p.1, cutL ρ κ p.2) (List.mem_map.2 ⟨p, hp, rfl⟩)
      · rw [List.getElem?_append_right (by rw [puts_len]; omega), puts_len] at hj
        have hk := (List.getElem?_eq_some_iff.1 hj).1
        obtain ⟨y, hx, hzx⟩ := hzk (j - σ.objs.length) hk
        rw [hx] at hj
        obtain rfl := Option.some.inj hj
        exact ⟨f (j - σ.objs.length), y, by rw [r2 _ hk]; congr 1; omega, hH.obj _ (List.mem_of_getElem? hzx), .inr (hL x y (List.mem_of_getElem? hx) _ _).symm⟩
    · rcases s4 t u h with ⟨k, hk, e1, e2⟩ | ⟨e1, e2⟩
      · subst e1
        exact (hH.tok _ (List.mem_of_getElem? (hgk k hk))).1
      · subst e1
        simp only [St.grow] at hu
        rw [List.getElem?_append_left (by rw [hq]; exact e2)] at hu
        exact hH.opn t hu
    · exact List.pairwise_map.2 hBd
    · intro p hp
      obtain ⟨q, hq', rfl⟩ := List.mem_map.1 hp
      exact hBi x f g q hq'
  · subst h4
    have hd2 : (B x (fun i => σ.objs.length + i) (fun i => σ.opn.length + i)).Pairwise fun p q => p.1 ≠ q.1 := by
      have := List.pairwise_map.2 h2
      rw [h1.fst] at this
      exact List.pairwise_map.1 this
    have hI' := Inv.wkoM h1 (X := (σ.puts B').objs ++ L x) h2 (fun p hp => by
      rw [List.getElem?_append_left (by simp only [St.puts, puts_len]; exact h3 p hp)]
      exact puts_at B' _ h2 p hp (h3 p hp)) hI
    have e : (B x (fun i => σ.objs.length + i) (fun i => σ.opn.length + i)).foldl (fun o p => o.set p.1 p.2) ((σ.puts B').objs ++ L x) = (σ.puts (B x (fun i => σ.objs.length + i) (fun i => σ.opn.length + i))).objs ++ L x := by
      rw [foldl_set_append _ _ _ (fun p hp => by simp only [St.puts, puts_len]; exact hBi _ _ _ p hp)]
      simp only [St.puts]
      rw [foldl_set_twice h1.fst hd2 _ (fun p hp => hBi _ _ _ p hp)]
    rw [e] at hI'
    exact hI'
theorem ACall.outV {g : FuncId} {args : List AV} {b : AV} {B : (Nat → Nat) → List (Nat × List AV)} {L : List (List AV)} (hb : ∀ ρ κ, cutAV ρ κ b = b) (hL : ∀ c ∈ L, ∀ ρ κ, cutL ρ κ c = c) (hBi : ∀ f, ∀ p ∈ B f, p.1 < σ.objs.length)
    (hBc : ∀ ρ κ f f', (∀ i, i < L.length → ρ (f i) = some (f' i)) → (∀ i, i < σ.objs.length → ρ i = some i) → WkM ((B f).map fun p => (p.1, cutL ρ κ p.2)) (B f'))
    (h : ACall P g args σ (fun a τ => a = b ∧ ∃ f : Nat → Nat, (∀ i, i < L.length → σ.objs.length ≤ f i) ∧ Holds σ (zipB f 0 L ++ B f) [] τ)) :
    ACall P g args σ (fun a τ => a = b ∧ τ = σ.grow (B (fun i => σ.objs.length + i)) L [] 0) :=
  (ACall.outG (X := Unit) (B := fun _ f _ => B f) (L := fun _ => L) [] 0 hb (fun _ => hL) (fun _ f _ => hBi f) (fun _ ρ κ f f' _ _ h1 _ h3 => hBc ρ κ f f' h1 h3) (h.mono fun a τ ⟨h1, f, h2, h3⟩ => ⟨h1, (), f, fun i => i, h2, h3⟩)).mono fun a τ ⟨h1, _, h2⟩ => ⟨h1, h2⟩
variable {σ0 : St} {O : List (Nat × List AV)} {A : List Nat} {fr : Nat → AV}
theorem h_callg (hH : Holds σ0 O A σ) {o : Oper} {f : Operand} {xs : List Operand} {gg : FuncId} {first cap args : List AV} {b : AV} {L : List (List AV)} (M : Nat → List (Nat × (Nat × List AV))) (hM : ∀ i, hasL O (M i)) (hc : callOf o = some (f, xs)) (hf : aeval fr f = .fn (.func gg) first cap) (hargs : WkL (first ++ xs.map (aeval fr) ++ cap) args)
    (hcall : ACall P gg args σ (fun a τ => a = b ∧ τ = σ.grow ((M σ.objs.length).map (·.2)) L [] 0)) : ∃ (id : Nat) (τ : St), OpS P o fr σ (fun a' τ' => a' = b ∧ τ' = τ) ∧ (Holds σ0 (zipB (fun i => id + i) 0 L ++ putL O (M id)) A τ ∧ σ0.objs.length ≤ id) := by
  refine ⟨σ.objs.length, _, OpS.of_call hc hf hargs hcall, ?_, hH.olen⟩
  have h1 := (hH.puts (hM σ.objs.length)).addL L
  simp only [St.puts, puts_len] at h1
  have e : σ.grow ((M σ.objs.length).map (·.2)) L [] 0 = ⟨(σ.puts ((M σ.objs.length).map (·.2))).objs ++ L, σ.opn, σ.gl⟩ := by simp [St.grow, St.shut]
  rw [e]
  exact h1
theorem ACall.newB1 {g : FuncId} {args : List AV} {α : Type} {B : (Nat → Nat) → α → List (List AV)} {c : α} (m : Nat) (hm : ∀ f, (B f c).length = m) (h0 : 0 < m)
    (hc : ∀ ρ κ f g, (∀ i, i < m → ρ (f i) = some (g i)) → WkLL ((B f c).map (cutL ρ κ)) (B g c)) (h : ACall P g args σ (fun a τ => ∃ f : Nat → Nat, a = .ref (f 0) 0 ∧ (∀ i, i < (B f c).length → σ.objs.length ≤ f i) ∧ Holds σ (zipB f 0 (B f c)) [] τ)) :
    ACall P g args σ (fun a τ => a = .ref σ.objs.length 0 ∧ τ = ⟨σ.objs ++ B (fun i => σ.objs.length + i) c, σ.opn, σ.gl⟩) := by
  refine ACall.weaken (K := fun a τ => ∃ L, WkLL L (B (fun i => σ.objs.length + i) c) ∧ a = .ref σ.objs.length 0 ∧ τ = ⟨σ.objs ++ L, σ.opn, σ.gl⟩) ?_ (fun a τ ⟨L, h1, h2, h3⟩ => ⟨⟨σ.objs ++ B (fun i => σ.objs.length + i) c, σ.opn, σ.gl⟩, fun w0 G w hI => by subst h3; exact hI.wkoL h1, h2, rfl⟩)
  refine h.ren fun a σ' ⟨f, ha, hf, hH⟩ => ?_
  subst ha
  rw [hm] at hf
  have hz : ∀ k, k < m → ∃ x, (B f c)[k]? = some x ∧ (zipB f 0 (B f c))[k]? = some (f k, x) := fun k hk => by
    have hx : (B f c)[k]? = some ((B f c)[k]'(by rw [hm]; exact hk)) := List.getElem?_eq_getElem _
    exact ⟨_, hx, by rw [zipB_get, hx, Nat.zero_add]; rfl⟩
  have hinj : ∀ i j, i < m → j < m → f i = f j → i = j := fun i j hi hj e => by
    obtain ⟨x, _, hx⟩ := hz i hi
    obtain ⟨y, _, hy⟩ := hz j hj
    exact Classical.byContradiction fun hn => dist_get hH.dist hx hy hn e
  obtain ⟨ρ, r1, r2, r3, r4⟩ := ren_names σ.objs.length m f hf hinj
  have hmap := hc ρ (idl σ.opn.length) f (fun i => σ.objs.length + i) r2
  refine ⟨⟨σ.objs ++ (B f c).map (cutL ρ (idl σ.opn.length)), σ.opn, σ.gl⟩, .ref σ.objs.length 0, ρ, idl σ.opn.length, ⟨r1, idl_inj _, r3, fun i hi => by simp [idl, hi], fun i j h => ?_, fun t u h => (idl_lt h).2, Nat.le_refl _, rfl, fun j d hj => ?_, fun t u h hu => ?_⟩, ?_, _, hmap, rfl, rfl⟩
  · simp only [List.length_append, List.length_map, hm]
    rcases r4 i j h with ⟨k, hk, e1, e2⟩ | ⟨e1, e2⟩ <;> omega
  · by_cases hlt : j < σ.objs.length
    · simp only at hj
      rw [List.getElem?_append_left hlt] at hj
      refine ⟨j, d, r3 _ hlt, hH.base j d hj (fun p hp => ?_), .inl ⟨hj, rfl⟩⟩
      obtain ⟨k, hk, e1, e2⟩ := zipB_mem hp
      rw [hm] at hk
      have := hf k hk
      rw [e1, Nat.zero_add]
      omega
    · simp only at hj
      rw [List.getElem?_append_right (by omega)] at hj
      have hk := (List.getElem?_eq_some_iff.1 hj).1
      rw [List.length_map, hm] at hk
      obtain ⟨x, hx, hzx⟩ := hz (j - σ.objs.length) hk
      refine ⟨f (j - σ.objs.length), x, by rw [r2 _ hk]; congr 1; omega, hH.obj _ (List.mem_of_getElem? hzx), .inr ?_⟩
      rw [List.getElem?_map, hx] at hj
      exact (Option.some.inj hj).symm
  · obtain ⟨rfl, _⟩ := idl_lt h
    exact hH.opn t hu
  · simp only [cutAV, r2 0 h0, Nat.add_zero]
    exact Wk.refl _
theorem h_calln1 (hH : Holds σ0 O A σ) {o : Oper} {f : Operand} {xs : List Operand} {gg : FuncId} {first cap args : List AV} {α : Type} {B : (Nat → Nat) → α → List (List AV)} (c : α) (hc : callOf o = some (f, xs)) (hf : aeval fr f = .fn (.func gg) first cap) (hargs : WkL (first ++ xs.map (aeval fr) ++ cap) args)
    (hcall : ACall P gg args σ (fun a τ => a = .ref σ.objs.length 0 ∧ τ = ⟨σ.objs ++ B (fun i => σ.objs.length + i) c, σ.opn, σ.gl⟩)) : ∃ id τ, OpS P o fr σ (fun a' τ' => a' = .ref id 0 ∧ τ' = τ) ∧ (Holds σ0 (zipB (fun i => id + i) 0 (B (fun i => id + i) c) ++ O) A τ ∧ σ0.objs.length ≤ id) :=
  ⟨_, _, OpS.of_call hc hf hargs hcall, hH.addL _, hH.olen⟩
end
section
variable {P : Program} {Ty : TypeId → Option TI} {σ σ0 : St} {O : List (Nat × List AV)} {A' : List Nat} {ops : Array Oper} {fr : Nat → AV} {d : Option Tmp} {ty : TypeId} {pos : String} {af : Array Edge} {g : Option (Nat × Bool)} {ox oy oi : Operand} {T T' E U : TypeId} {α : Type} {e : α → AV} {sz id m cap : Nat}
def gC (id sz c n : Nat) : AV := if n = 0 then (if c = 0 then .vec id sz 0 else .vc id sz 0 0 c) else .vec id sz n
def gK (e : α → AV) (c : Nat) (l : List α) : List AV := if l.length = 0 then (if c = 0 then [] else [.junk]) else cL e l
def gR (id sz c n : Nat) : AV := if c = 0 then .vec id sz 0 else .vc id sz 0 n c
inductive GG (id sz c n : Nat) : AV → Prop where
  | c : GG id sz c n (gC id sz c n)
  | r (h : n ≤ c) : GG id sz c n (gR id sz c n)
theorem gC_pos {c n : Nat} (h : 0 < n) : gC id sz c n = .vec id sz n := by simp [gC]; omega
theorem gK_pos {c : Nat} {l : List α} (h : 0 < l.length) : gK e c l = cL e l := by unfold gK; rw [if_neg (by omega)]
theorem gK_sp (he : Enc Ty E sz e) (c : Nat) (l : List α) : spcl (gK e c l) = false := by
  unfold gK
  split
  · split <;> rfl
  · exact spcl_cL he l
theorem gK_cut (hc : ∀ ρ κ x, cutAV ρ κ (e x) = e x) (c : Nat) (l : List α) (ρ κ : Nat → Option Nat) : cutL ρ κ (gK e c l) = gK e c l := by
  unfold gK
  split
  · split <;> rfl
  · exact cut_cL hc ρ κ l
theorem cut_gC {ρ κ : Nat → Option Nat} {i j c n : Nat} (h : ρ i = some j) : Wk (cutAV ρ κ (gC i sz c n)) (gC j sz c n) := by
  unfold gC
  split
  · split
    · exact cut_vec h
    · simp only [cutAV, h]; exact .refl _
  · exact cut_vec h
theorem wk_vcv {c n : Nat} (h : 0 < n) : Wk (.vc id sz 0 n c) (.vec id sz n) := fun G v hr => by
  cases hr with
  | vc _ _ _ _ _ b hc hm hl hs => exact .vec _ _ _ c b h hc hm hl (by simpa using hs)
theorem GG.wk {c n : Nat} {a : AV} (h : GG id sz c n a) : Wk a (gC id sz c n) := by
  cases h with
  | c => exact .refl _
  | r h =>
    unfold gR gC
    split
    · rename_i h0
      rw [if_pos (by omega)]
      exact .refl _
    · split
      · rename_i h1 h2
        subst h2
        exact .refl _
      · exact wk_vcv (by omega)
theorem also_loc {G : Ghost} {i id b : Nat} (h0 : id ≠ i) (h : (Ghost.also G id i).loc id = some b) : (G.also id i).loc i = some b := by
  simp only [Ghost.also, if_neg h0] at h
  simp only [Ghost.also, if_true]; exact h
theorem also_bsz {G : Ghost} {i id : Nat} (h0 : id ≠ i) : (Ghost.also G id i).bsz i = (G.also id i).bsz id := by
  simp only [Ghost.also, if_true, if_neg h0]
theorem also_vec {G : Ghost} {i n : Nat} {v : Value} (h0 : id ≠ i) (h : Rel (Ghost.also G id i) v (.vec id sz n)) : Rel (G.also id i) v (.vec i sz n) := by
  cases h with
  | vec0 A _ _ => exact .vec0 _ _ _
  | vec _ _ _ c b h0' hc hm hl hs => exact .vec _ _ _ c b h0' hc hm (also_loc h0 hl) (by rw [also_bsz h0]; exact hs)
theorem also_vc {G : Ghost} {i off n c : Nat} {v : Value} (h0 : id ≠ i) (h : Rel (Ghost.also G id i) v (.vc id sz off n c)) : Rel (G.also id i) v (.vc i sz off n c) := by
  cases h with
  | vc _ _ _ _ _ b hc hm hl hs => exact .vc _ _ _ _ _ b hc hm (also_loc h0 hl) (by rw [also_bsz h0]; exact hs)
theorem ren_gC {c n : Nat} : ∀ (G : Ghost) (i : Nat) (v : Value), id ≠ i → Rel (Ghost.also G id i) v (gC id sz c n) → Rel (G.also id i) v (gC i sz c n) := by
  intro G i v h0 h
  unfold gC at h ⊢
  split
  · rename_i h1
    rw [if_pos h1] at h
    split
    · rename_i h2; rw [if_pos h2] at h; exact also_vec h0 h
    · rename_i h2; rw [if_neg h2] at h; exact also_vc h0 h
  · rename_i h1; rw [if_neg h1] at h; exact also_vec h0 h
theorem ren_gR {c n : Nat} : ∀ (G : Ghost) (i : Nat) (v : Value), id ≠ i → Rel (Ghost.also G id i) v (gR id sz c n) → Rel (G.also id i) v (gR i sz c n) := by
  intro G i v h0 h
  unfold gR at h ⊢
  split
  · rename_i h1; rw [if_pos h1] at h; exact also_vec h0 h
  · rename_i h1; rw [if_neg h1] at h; exact also_vc h0 h
theorem ACall.revec {gg : FuncId} {args : List AV} {r : List α} {c : Nat} (he : Enc Ty E sz e) (hc0 : 0 < c) (h : ACall P gg args σ (fun a τ => a = .vc id sz 0 r.length c ∧ ∃ cells, cells ≠ [] ∧ spcl cells = false ∧ cells.take (r.length * sz) = cL e r ∧ id < σ.objs.length ∧ τ = ⟨σ.objs.set id cells, σ.opn, σ.gl⟩)) :
    ACall P gg args σ (fun a τ => a = gR σ.objs.length sz c r.length ∧ τ = ⟨σ.objs.set id [] ++ [gK e c r], σ.opn, σ.gl⟩) := by
  refine ⟨h.1, fun w0 G w vs hI hr => (h.2 w0 G w vs hI hr).mono ?_⟩
  rintro e' w' ⟨v, a, σ', G', rfl, h1, h2, h3, rfl, cells, hne, hsp, htk, hid, rfl⟩
  have hcell : (σ.objs.set id cells)[id]? = some cells := by rw [List.getElem?_set]; simp [hid]
  have hlen : r.length * sz ≤ cells.length := by
    have := congrArg List.length htk
    rw [cL_length he.len, List.length_take] at this
    omega
  have hg : gK e c r ≠ [] := by
    unfold gK
    split
    · rw [if_neg (by omega)]; simp
    · intro h0
      have := congrArg List.length h0
      rw [cL_length he.len] at this
      have h5 := Nat.mul_pos (show 0 < r.length by omega) (Nat.pos_of_ne_zero he.pos)
      simp at this
      omega
  have hI2 : Inv w0 G' w' ⟨(σ.objs.set id cells).set id (gK e c r), σ.opn, σ.gl⟩ := h2.reobj hcell hsp hne hg (fun b' T vs' l1 l2 l3 => by
    unfold gK
    split
    · rw [if_neg (by omega)]
      have hc1 : 0 < cells.length := by cases cells with | nil => exact absurd rfl hne | cons x _ => simp
      refine ⟨by have := l3.le; simp; omega, ⟨by have := l3.le; simp; omega, fun i v a e1 e2 => ?_⟩⟩
      cases i with
      | zero => simp at e2; subst e2; exact .junk v
      | succ i => simp at e2
    · have h4 := l3.rel.take (r.length * sz)
      rw [htk, List.take_take, Nat.min_eq_left hlen] at h4
      have hcl : (cL e r).length = r.length * sz := cL_length he.len r
      exact ⟨by rw [hcl]; exact Nat.le_trans hlen l3.le, by rw [hcl]; exact h4⟩)
  have hcl : ((σ.objs.set id cells).set id (gK e c r))[id]? = some (gK e c r) := List.getElem?_set_self (by simpa using hid)
  obtain ⟨k1, k2⟩ := hI2.also hcl
  simp only [List.length_set, List.set_set] at k1 k2
  refine ⟨_, gR σ.objs.length sz c r.length, _, _, rfl, h1.trans k1, k2, ?_, rfl, rfl⟩
  have hn : id ≠ σ.objs.length := by omega
  unfold gR
  rw [if_neg (by omega)]
  exact also_vc hn (h3.mono k1)
theorem o_glen (hT : TyOk P Ty) {c n : Nat} (hd : tdOf Ty T = .slice E) (hx : aeval fr ox = gC id sz c n) : OpP P ⟨d, .call ⟨.builtin .len, #[ox], #[T]⟩, ty, pos, af, g⟩ fr (eI (n : Int)) := by
  unfold gC at hx
  split at hx
  · rename_i h0
    subst h0
    split at hx
    · exact o_vlen hT hd hx
    · exact o_vclen hT hd hx
  · exact o_vlen hT hd hx
theorem h_appG (hT : TyOk P Ty) (hH : Holds σ0 O A' σ) (k : Nat) {i : TI} {c q : Nat} {l m z : List α} (h : app i.bytes l m = some z) (hm1 : m.length = 1) (hk : O[k]? = some (id, gK e c l)) (hn : σ0.objs.length ≤ id) (he : Enc Ty E sz e) (hd : tdOf Ty T = .slice E) (hi : Ty E = some i) (hsz : i.sz = sz) (hb : 0 < i.bytes) (hx : aeval fr ox = gC id sz c q) (hq : l.length = q) (hs : SrcV Ty U sz σ (aeval fr oy) m.length (cL e m)) :
    ∃ b τ, OpS P ⟨d, .call ⟨.builtin .append, #[ox, oy], #[T, U]⟩, ty, pos, af, g⟩ fr σ (fun a' τ' => a' = (fun b => gC b sz c z.length) b ∧ τ' = τ) ∧ (Holds σ0 (O.set k (b, gK e c z)) A' τ ∧ σ0.objs.length ≤ b) := by
  obtain ⟨h1, rfl⟩ := app_some h
  have hzl : 0 < (l ++ m).length := by simp; omega
  subst hq
  simp only [gC_pos hzl, gK_pos hzl]
  by_cases h0 : l.length = 0
  · obtain rfl := List.eq_nil_of_length_eq_zero h0
    by_cases hc : c = 0
    · subst hc
      exact h_appV hT hH k (q := 0) h (by rw [hk]; rfl) hn he hd hi hsz hb (by simpa [gC] using hx) rfl hs
    · have hx' : aeval fr ox = .vc id sz 0 0 c := by rw [hx]; simp [gC, hc]
      have hk' : O[k]? = some (id, [.junk]) := by rw [hk]; simp [gK, hc]
      have hml : (cL e m).length = sz := by rw [cL_length he.len, hm1, Nat.one_mul]
      have hz0 := he.pos
      refine ⟨id, _, ?_, hH.put k hk' (cL e ([] ++ m)), hn⟩
      have hop := o_vcapp (P := P) (d := d) (ty := ty) (pos := pos) (af := af) (g := g) (ox := ox) (oy := oy) (T := T) (U := U) (fr := fr) (σ := σ) hT (off := 0) (m := 0) (cap := c) (sz := sz) (k := m.length) (hH.at_ k hk') rfl (by simp) hd hi hsz hx' hs (by omega) (by simp)
      have e1 : ([AV.junk].take (0 + 0 * sz) ++ cL e m ++ [AV.junk].drop (0 + 0 * sz + (cL e m).length)) = cL e ([] ++ m) := by
        rw [hml]
        have : [AV.junk].drop (0 + 0 * sz + sz) = [] := List.drop_of_length_le (by simp; omega)
        rw [this]
        simp
      rw [e1] at hop
      intro w0 G act w Q K' hI hr hK
      refine hop w0 G act w Q K' hI hr ?_
      rintro v a τ w' G' ⟨rfl, rfl⟩ hG hI' hv
      refine hK v _ _ w' G' ⟨rfl, rfl⟩ hG hI' (wk_vcv (c := c) hzl G' v ?_)
      simpa using hv
  · exact h_appV hT hH k (q := l.length) h (by rw [hk, gK_pos (by omega)]) hn he hd hi hsz hb (by rw [hx, gC_pos (by omega)]) rfl hs
theorem OpS.wkr {o : Oper} {a b : AV} {τ : St} (hw : Wk a b) (h : OpS P o fr σ (fun a' τ' => a' = a ∧ τ' = τ)) : OpS P o fr σ (fun a' τ' => a' = b ∧ τ' = τ) := by
  intro w0 G act w Q K' hI hr hK
  refine h w0 G act w Q K' hI hr ?_
  rintro v x σ' w' G' ⟨rfl, rfl⟩ hG hI' hv
  exact hK v b _ w' G' ⟨rfl, rfl⟩ hG hI' (hw G' v hv)
theorem o_gvecx (hT : TyOk P Ty) {m c : Nat} {kk : IntKind} {i : Int} {u : Unit} (h : chk m i = some u) (hd : tdOf Ty T = .slice E) (hz : szOf Ty E = sz) (hs : sz ≠ 0) (hx : aeval fr ox = gC id sz c m) (hi : aeval fr oi = .int kk i) : OpP P ⟨d, .indexAddr T ox oi, ty, pos, af, g⟩ fr (.ref id (0 + i.toNat * sz + 0)) := by
  have := chk_some h
  exact o_vecx hT h hd hz hs (by rw [hx, gC_pos (by omega)]) hi
theorem h_ldxG (hT : TyOk P Ty) (hH : Holds σ0 O A' σ) (k : Nat) {m c : Nat} {l : List α} {i : Int} {y : α} {o : Nat} {a : AV} (h : ixA m l i = some y) (hk : O[k]? = some (id, gK e c l)) (he : Enc Ty E sz e) (ha : acut Ty T (e y).cells o = some a) (ho : o + szOf Ty T ≤ sz) (hx : aeval fr ox = .ref id (0 + i.toNat * sz + o)) :
    OpS P ⟨d, .load T ox, ty, pos, af, g⟩ fr σ (fun a' τ => a' = a ∧ τ = σ) := by
  obtain ⟨_, _, h2⟩ := ixA_some h
  have : 0 < l.length := by have := (List.getElem?_eq_some_iff.1 h2).1; omega
  exact h_ldx hT hH k h (by rw [hk, gK_pos this]) he ha ho hx
theorem h_calldg (hH : Holds σ0 O A' σ) (k : Nat) {cs cs' : List AV} {c m : Nat} (hk : O[k]? = some (id, cs)) (hn : σ0.objs.length ≤ id) {o : Oper} {f : Operand} {xs : List Operand} {gg : FuncId} {first cap' args : List AV} (hc : callOf o = some (f, xs)) (hf : aeval fr f = .fn (.func gg) first cap') (hargs : WkL (first ++ xs.map (aeval fr) ++ cap') args)
    (hcall : ACall P gg args σ (fun a τ => a = gR σ.objs.length sz c m ∧ τ = ⟨σ.objs.set id [] ++ [cs'], σ.opn, σ.gl⟩)) : ∃ b τ, OpS P o fr σ (fun a' τ' => a' = (fun b => gR b sz c m) b ∧ τ' = τ) ∧ (Holds σ0 (O.set k (b, cs')) A' τ ∧ σ0.objs.length ≤ b) :=
  ⟨_, _, OpS.of_call hc hf hargs hcall, hH.renew k hk hn cs', hH.olen⟩
theorem AWP.reveal {n : Nat} {cd : Code} {Q : AExit → (Nat → AV) → St → Prop} {l : List (Nat × AV)} (hH : Holds σ0 O A' σ) (km ks j : Nat) {idm c m : Nat} {cs : List AV} {x : List α} {a : AV} (hkm : O[km]? = some (idm, cs)) (hks : O[ks]? = some (id, gK e c x)) (hj : cs[j]? = some a) (ha : GG id sz c m a) (hm : x.length = m)
    (h : ∀ c' τ, Holds σ0 ((O.set km (idm, cs.set j (gR id sz c' m))).set ks (id, gK e c' x)) A' τ → m ≤ c' → AWP P n cd Q (Va.fm l) τ) (hne : km ≠ ks) (hsp : spcl cs = false := by first | rfl | exact spcl_cL (by assumption) _) : AWP P n cd Q (Va.fm l) σ := fun w0 G act w hS => by
  have hcn : cs ≠ [] := fun h0 => by subst h0; simp at hj
  obtain ⟨b0, T0, vs0, k1, k2, k3, k4, k5, k6⟩ := hS.inv.loc idm cs (hH.at_ km hkm) hcn hsp
  obtain ⟨v, hv, hrv⟩ := k4.rel.get hj
  have claim : ∃ c', m ≤ c' ∧ gK e c' x = gK e c x ∧ Rel G v (gR id sz c' m) := by
    cases ha with
    | r h1 => exact ⟨c, h1, rfl, hrv⟩
    | c =>
      by_cases h0 : m = 0
      · refine ⟨c, by omega, rfl, ?_⟩
        subst h0
        unfold gC at hrv
        rw [if_pos rfl] at hrv
        exact hrv
      · rw [gC_pos (by omega)] at hrv
        cases hrv with
        | vec0 A _ _ => omega
        | vec _ _ _ c' b h0' hc' hm' hl hs =>
          refine ⟨c', hc', by rw [gK_pos (by omega), gK_pos (by omega)], ?_⟩
          unfold gR
          rw [if_neg (by omega)]
          exact .vc _ _ _ _ _ b hc' hm' hl (by simpa using hs)
  obtain ⟨c', q1, q2, q3⟩ := claim
  have hI2 := hS.inv.reobj (id := idm) (c' := cs.set j (gR id sz c' m)) (hH.at_ km hkm) hsp hcn (fun h0 => hcn (by have := congrArg List.length h0; simp at this; exact this)) (fun b T vs l1 l2 l3 => by
    rw [k1] at l1
    obtain rfl := Option.some.inj l1
    rw [k3] at l2
    injection l2 with l2
    injection l2 with l2 l4
    subst l2
    exact ⟨by rw [List.length_set]; exact l3.le, by rw [List.length_set]; exact l3.rel.set_at hv q3⟩)
  have hH3 : Holds σ0 ((O.set km (idm, cs.set j (gR id sz c' m))).set ks (id, gK e c' x)) A' ⟨σ.objs.set idm (cs.set j (gR id sz c' m)), σ.opn, σ.gl⟩ := by
    have e1 : (O.set km (idm, cs.set j (gR id sz c' m))).set ks (id, gK e c' x) = O.set km (idm, cs.set j (gR id sz c' m)) := by
      rw [q2]
      have := (List.getElem?_set_ne (l := O) (a := (idm, cs.set j (gR id sz c' m))) hne).trans hks
      obtain ⟨hlt, hg⟩ := List.getElem?_eq_some_iff.1 this
      rw [← hg, List.set_getElem_self]
    rw [e1]; exact hH.put km hkm _
  exact h c' _ hH3 q1 w0 G act w ⟨hI2, hS.frm, hS.size, hS.defers⟩
def cpL (v l : List α) : Option (List α) := if l.length ≤ v.length then some (l ++ v.drop l.length) else none
theorem cpL_some {v l r : List α} (h : cpL v l = some r) : l.length ≤ v.length ∧ r = l ++ v.drop l.length := by
  unfold cpL at h
  split at h
  · rename_i hl; cases h; exact ⟨hl, rfl⟩
  · cases h
theorem cpL_len {v l r : List α} (h : cpL v l = some r) : r.length = v.length := by
  obtain ⟨h1, rfl⟩ := cpL_some h
  simp; omega
theorem wk_vm {n : Nat} (h : 0 < n) : Wk (.vec id sz n) (.msl id 0 n) := fun G v hr => by
  cases hr with
  | vec0 A _ _ => omega
  | vec _ _ _ c b h0 hc hm hl hs => exact .msl _ _ _ _ b hc hl
theorem h_cpV (hT : TyOk P Ty) (hH : Holds σ0 O A' σ) (k : Nat) {ti : TI} {n : Nat} {v v' l : List α} (h : cpL v l = some v') (hk : O[k]? = some (id, cL e v)) (he : Enc Ty E sz e) (hd : tdOf Ty T = .slice E) (hi : Ty E = some ti) (hsz : ti.sz = sz) (hne : oy ≠ ox) (hx : aeval fr ox = .vec id sz n) (hn : v.length = n) (hs : SrcV Ty U sz σ (aeval fr oy) l.length (cL e l)) :
    ∃ (_ : Nat) (τ : St), OpS P ⟨d, .call ⟨.builtin .copy, #[ox, oy], #[T, U]⟩, ty, pos, af, g⟩ fr σ (fun a' τ' => a' = (fun _ => eI (l.length : Int)) 0 ∧ τ' = τ) ∧ Holds σ0 (O.set k (id, cL e v')) A' τ := by
  obtain ⟨hl, hv'⟩ := cpL_some h
  subst hn
  refine ⟨0, ⟨σ.objs.set id (cL e v'), σ.opn, σ.gl⟩, ?_, hH.put k hk (cL e v')⟩
  by_cases h0 : v.length = 0
  · have e1 : v = [] := List.eq_nil_of_length_eq_zero h0
    have e2 : l = [] := List.eq_nil_of_length_eq_zero (by omega)
    subst e1; subst e2
    have e3 : v' = [] := hv'
    subst e3
    have e4 : σ.objs.set id (cL e []) = σ.objs := by
      obtain ⟨hlt, hg⟩ := List.getElem?_eq_some_iff.1 (hH.at_ k hk)
      rw [← hg, List.set_getElem_self]
    rw [e4]
    refine OpS.of_run (σ' := σ) (fun w0 G ρ w hI hr => ?_)
    have hx' := hr ox (by simp [Op.operands, Call.operands])
    have hy' := hr oy (by simp [Op.operands, Call.operands])
    rw [hx] at hx'
    unfold SrcV at hs
    obtain ⟨hyl, news, hS, hN⟩ := srcC_sound hT hI hy' hs
    obtain ⟨hd2, ti', z, g1, g2, g3, g4, g5, g6, g7, g8⟩ := hT E ti hi
    have ht := tdOf_ok hT hd (by simp)
    have hnn : news = [] := List.eq_nil_of_length_eq_zero (by rw [hS.newsLen]; simp)
    subst hnn
    have hlen := hS.len w
    have hcl := hS.cells
    rw [← hsz] at hcl
    have hcl' : (Builtin.firstCells ti.sz 0 (ρ oy)).run P w = .ok #[] w := hcl
    refine ⟨.int .i64 0, w, G, ?_, .refl G, hI, .int _ _⟩
    have hxa : ∃ A, ρ ox = .slice A 0 0 := by
      generalize ρ ox = u at hx'
      cases hx' with
      | vec0 A _ _ => exact ⟨A, rfl⟩
      | vec _ _ _ c b h0 hc hm hl hs => exact absurd h0 (by simp)
    obtain ⟨A, hvx⟩ := hxa
    simp [execOp, resolve, invoke, builtin, Builtin.copy_, hvx, run_underlying ht, sizeOf, typeInfo, g1, g2, hlen, hcl', goInt]
    cases A <;> simp [storeCells, hcl']
  · classical
    refine OpS.of_aop2 hT rfl (fun x => if x = ox then .msl id 0 v.length else aeval fr x) (fun x _ => ?_) (a := .int .i64 (l.length : Nat)) ?_ (Wk.refl _)
    · split
      · rename_i hxx; subst hxx; rw [hx]; exact wk_vm (by omega)
      · exact Wk.refl _
    · have hvl := cL_length he.len v
      have hll := cL_length he.len l
      have hpos := Nat.pos_of_ne_zero he.pos
      have hmul : l.length * sz ≤ v.length * sz := Nat.mul_le_mul_right _ hl
      have hvne : cL e v ≠ [] := fun h => by
        rw [h] at hvl
        have := Nat.mul_pos (show 0 < v.length by omega) hpos
        simp at hvl; omega
      unfold SrcV at hs
      simp only [aop2, if_true, if_neg hne, acopy, hd, hi, row_eq (hH.at_ k hk) (spcl_cL he v)]
      rw [hsz, hs]
      simp only
      rw [if_pos ⟨by omega, by cases hcv : cL e v with | nil => exact absurd hcv hvne | cons _ _ => rfl, hl⟩]
      congr 4
      rw [hv', cL_append, List.take_zero, List.nil_append, Nat.zero_add, hll, cL_drop he.len]
end
end Go.Va
namespace Go.Va
theorem gC_cells (id sz c n : Nat) : (gC id sz c n).cells = [gC id sz c n] := by
  unfold gC
  split
  · split <;> rfl
  · rfl
theorem gC_flat (id sz c n : Nat) : (gC id sz c n).cells.all flatAV = true := by
  rw [gC_cells]
  unfold gC
  split
  · split <;> rfl
  · rfl
theorem gC_one (id sz c n : Nat) : (gC id sz c n).cells.length = 1 := by rw [gC_cells]; rfl
theorem delO_len {α : Type} {l r : List α} {i j : Int} (h : delO l i j = some r) : r.length ≤ l.length := by
  obtain ⟨a, b, _, _, _, _, _, rfl⟩ := delO_some h
  simp; omega
end Go.Va
namespace Go.Va
open Go Go.RowKit
section
variable {P : Program} {Ty : TypeId → Option TI} {σ σ0 : St} {O : List (Nat × List AV)} {A' : List Nat} {fr : Nat → AV} {d : Option Tmp} {ty : TypeId} {pos : String} {af : Array Edge} {g : Option (Nat × Bool)} {ox oy : Operand} {T E : TypeId} {α : Type} {e : α → AV} {sz : Nat}
def cLh (e : α → AV) (l : List α) (i : Nat) (cs : List AV) : List AV := cL e (l.take i) ++ (cs ++ cL e (l.drop (i + 1)))
theorem cLh_open {l : List α} {i : Nat} {y : α} (h : l[i]? = some y) : cL e l = cLh e l i (e y).cells := by
  obtain ⟨hlt, hg⟩ := List.getElem?_eq_some_iff.1 h
  have e1 : l = l.take i ++ y :: l.drop (i + 1) := by
    rw [← hg, List.getElem_cons_drop, List.take_append_drop]
  have e2 : cL e (y :: l.drop (i + 1)) = (e y).cells ++ cL e (l.drop (i + 1)) := by simp [cL, flat_cons]
  unfold cLh
  rw [← e2, ← cL_append, ← e1]
theorem cLh_close {l : List α} {i : Nat} (z : α) (h : i < l.length) : cL e (l.set i z) = cLh e l i (e z).cells := by
  rw [cLh_open (i := i) (y := z) (List.getElem?_set_self h)]
  unfold cLh
  rw [List.take_set_of_le (Nat.le_refl _), List.drop_set_of_lt (Nat.lt_succ_self _)]
theorem gK_open {n c : Nat} {l : List α} {i : Int} {y : α} (h : ixA n l i = some y) : gK e c l = cLh e l i.toNat (e y).cells := by
  obtain ⟨_, _, h2⟩ := ixA_some h
  have : 0 < l.length := by have := (List.getElem?_eq_some_iff.1 h2).1; omega
  rw [gK_pos this, cLh_open h2]
theorem cLh_len (he : ∀ x, (e x).cells.length = sz) {l : List α} {i : Nat} {cs : List AV} (h : i < l.length) (hc : cs.length = sz) : (cLh e l i cs).length = l.length * sz := by
  unfold cLh
  rw [List.length_append, List.length_append, cL_length he, cL_length he, hc, List.length_take, List.length_drop, Nat.min_eq_left (by omega)]
  have : l.length = i + (1 + (l.length - (i + 1))) := by omega
  conv => rhs; rw [this, Nat.add_mul, Nat.add_mul, Nat.one_mul]
theorem repl_pre (A X new : List AV) (o : Nat) : repl (A ++ X) (A.length + o) new = A ++ repl X o new := by
  unfold repl
  rw [List.take_length_add_append, Nat.add_assoc, List.drop_length_add_append]
  simp
theorem repl_post {X new : List AV} (B : List AV) (o : Nat) (ho : o + new.length ≤ X.length) : repl (X ++ B) o new = repl X o new ++ B := by
  unfold repl
  rw [List.take_append_of_le_length (by omega), List.drop_append_of_le_length (by omega)]
  simp
theorem cLh_repl (he : ∀ x, (e x).cells.length = sz) {l : List α} {i o : Nat} {cs new : List AV} (h : i < l.length) (ho : o + new.length ≤ cs.length) : repl (cLh e l i cs) (i * sz + o) new = cLh e l i (repl cs o new) := by
  have hA : (cL e (l.take i)).length = i * sz := by rw [cL_length he, List.length_take, Nat.min_eq_left (by omega)]
  unfold cLh
  rw [← hA, repl_pre, repl_post _ _ ho]
theorem cLh_get (he : ∀ x, (e x).cells.length = sz) {l : List α} {i o : Nat} {cs : List AV} (h : i < l.length) (ho : o < cs.length) : (cLh e l i cs)[i * sz + o]? = cs[o]? := by
  have hA : (cL e (l.take i)).length = i * sz := by rw [cL_length he, List.length_take, Nat.min_eq_left (by omega)]
  unfold cLh
  rw [List.getElem?_append_right (by omega), hA, show i * sz + o - i * sz = o by omega, List.getElem?_append_left ho]
theorem cLh_set (he : ∀ x, (e x).cells.length = sz) {l : List α} {i o : Nat} {cs : List AV} {a : AV} (h : i < l.length) (ho : o < cs.length) : (cLh e l i cs).set (i * sz + o) a = cLh e l i (cs.set o a) := by
  have hA : (cL e (l.take i)).length = i * sz := by rw [cL_length he, List.length_take, Nat.min_eq_left (by omega)]
  unfold cLh
  rw [List.set_append_right _ _ (by omega), hA, show i * sz + o - i * sz = o by omega, List.set_append_left _ _ ho]
theorem spcl_two {c : List AV} (h : 2 ≤ c.length) : spcl c = false := by
  match c, h with
  | _ :: _ :: _, _ => rfl
theorem cLh_sp (he : ∀ x, (e x).cells.length = sz) {l : List α} {i : Nat} {cs : List AV} (h : i < l.length) (hc : cs.length = sz) (h2 : 2 ≤ sz) : spcl (cLh e l i cs) = false := by
  refine spcl_two ?_
  rw [cLh_len he h hc]
  calc 2 ≤ 1 * sz := by omega
    _ ≤ _ := Nat.mul_le_mul_right _ (by omega)
theorem ixA_lt {n : Nat} {l : List α} {i : Int} {y : α} (h : ixA n l i = some y) : i.toNat < l.length := (List.getElem?_eq_some_iff.1 (ixA_some h).2.2).1
theorem h_sth (hT : TyOk P Ty) (hH : Holds σ0 O A' σ) (k : Nat) {ti : TI} {id m : Nat} {l : List α} {i : Int} {z : α} (hi : ixA m l i = some z) {cs cs' : List AV} {y b : AV} {o : Nat} (hk : O[k]? = some (id, cLh e l i.toNat cs)) (he : Enc Ty E sz e) (hti : Ty T = some ti) (hne : oy ≠ ox) (hx : aeval fr ox = .ref id (0 + i.toNat * sz + o)) (hy : aeval fr oy = y) (hw : Wk y b)
    (hf : b.cells.all flatAV = true) (hl : b.cells.length = ti.sz) (hcl : cs.length = sz) (h2 : 2 ≤ sz) (hle : o + ti.sz ≤ sz) (hr : repl cs o b.cells = cs') :
    ∃ τ, OpS P ⟨d, .store T ox oy, ty, pos, af, g⟩ fr σ (fun a' τ' => a' = .junk ∧ τ' = τ) ∧ Holds σ0 (O.set k (id, cLh e l i.toNat cs')) A' τ := by
  have hil := ixA_lt hi
  have hlen := cLh_len he.len hil hcl
  have h3 : i.toNat * sz + sz ≤ l.length * sz := by rw [← Nat.succ_mul]; exact Nat.mul_le_mul_right _ hil
  refine h_st hT hH k hk hti hne hx hy hw hf hl (by rw [hlen]; omega) (cLh e l i.toNat cs') ?_ (cLh_sp he.len hil hcl h2)
  rw [Nat.zero_add, cLh_repl he.len hil (by omega), hr]
theorem h_ldh (hT : TyOk P Ty) (hH : Holds σ0 O A' σ) (k : Nat) {id m : Nat} {l : List α} {i : Int} {z : α} (hi : ixA m l i = some z) {cs : List AV} {a : AV} {o : Nat} (hk : O[k]? = some (id, cLh e l i.toNat cs)) (he : Enc Ty E sz e) (hs : (Ty T).isSome = true) (hna : isAggTD (tdOf Ty T) = false) (hcl : cs.length = sz) (h2 : 2 ≤ sz) (hc : cs[o]? = some a) (hx : aeval fr ox = .ref id (0 + i.toNat * sz + o)) :
    OpS P ⟨d, .load T ox, ty, pos, af, g⟩ fr σ (fun a' τ => a' = a ∧ τ = σ) := by
  have hil := ixA_lt hi
  refine h_ld hT hH k hk ?_ hx (cLh_sp he.len hil hcl h2)
  obtain ⟨ti, hti⟩ := Option.isSome_iff_exists.1 hs
  have hd : tdOf Ty T = ti.d := by unfold tdOf; rw [hti]
  rw [hd] at hna
  unfold acut
  rw [hti]
  simp only
  rw [hna, Nat.zero_add, cLh_get he.len hil (List.getElem?_eq_some_iff.1 hc).1]
  simpa using hc
theorem AWP.closeH {n : Nat} {cd : Code} {Q : AExit → (Nat → AV) → St → Prop} {l : List (Nat × AV)} (hH : Holds σ0 O A' σ) (km ks o : Nat) {idm id m q c sz' : Nat} {x : List α} {i : Int} {z y : α} (hi : ixA q x i = some z) {β : Type} {e' : β → AV} {w : List β} {E' : TypeId} {cs : List AV} (hkm : O[km]? = some (idm, cLh e x i.toNat cs)) (hks : O[ks]? = some (id, cL e' w)) (hnw : σ0.objs.length ≤ id) (hne : km ≠ ks) (he : Enc Ty E sz e) (he' : Enc Ty E' sz' e') (hc : cs[o]? = some (.vec id sz' m)) (hm : w.length = m) (hcl : cs.length = sz) (h2 : 2 ≤ sz)
    (hw : ∀ tk, WkL (cs.set o (eT tk sz' e' w)) (e y).cells) (h : ∀ tk τ, Holds σ0 ((O.set km (idm, gK e c (x.set i.toNat y))).eraseIdx ks) (tk :: A') τ → AWP P n cd Q (Va.fm l) τ) : AWP P n cd Q (Va.fm l) σ := by
  have hil := ixA_lt hi
  have hol : o < cs.length := (List.getElem?_eq_some_iff.1 hc).1
  refine AWP.frzF hH km ks (i.toNat * sz + o) hkm hks hnw hne he' (by rw [cLh_get he.len hil hol]; exact hc) hm (fun tk τ hH2 => ?_) (cLh_sp he.len hil hcl h2)
  rw [cLh_set he.len hil hol] at hH2
  have hkm2 : ((O.set km (idm, cLh e x i.toNat (cs.set o (eT tk sz' e' w)))).eraseIdx ks)[if km < ks then km else km - 1]? = some (idm, cLh e x i.toNat (cs.set o (eT tk sz' e' w))) := by
    have hl := (List.getElem?_eq_some_iff.1 hkm).1
    by_cases hlt : km < ks
    · simp only [hlt, if_true]
      rw [List.getElem?_eraseIdx, if_pos hlt, List.getElem?_set_self hl]
    · simp only [hlt, if_false]
      rw [List.getElem?_eraseIdx, if_neg (by omega), show km - 1 + 1 = km by omega, List.getElem?_set_self hl]
  have hsp := cLh_sp (e := e) he.len (cs := cs.set o (eT tk sz' e' w)) hil (by rw [List.length_set]; exact hcl) h2
  have hpos : 0 < (x.set i.toNat y).length := by rw [List.length_set]; omega
  have key : WkL (cLh e x i.toNat (cs.set o (eT tk sz' e' w))) (gK e c (x.set i.toNat y)) := by
    rw [gK_pos hpos, cLh_close y hil]
    unfold cLh
    exact (WkL.refl _).append ((hw tk).append (.refl _))
  refine AWP.wko hH2 _ hkm2 key (fun τ hH3 => h tk τ ?_) hsp
  have e1 : (O.set km (idm, gK e c (x.set i.toNat y))).eraseIdx ks = ((O.set km (idm, cLh e x i.toNat (cs.set o (eT tk sz' e' w)))).eraseIdx ks).set (if km < ks then km else km - 1) (idm, gK e c (x.set i.toNat y)) := by
    apply List.ext_getElem?
    intro j
    have hl := (List.getElem?_eq_some_iff.1 hkm).1
    by_cases hlt : km < ks
    · simp only [hlt, if_true]
      rw [List.getElem?_set, List.getElem?_eraseIdx, List.getElem?_eraseIdx]
      by_cases hj : j = km
      · subst hj
        have : j < ((O.set j (idm, cLh e x i.toNat (cs.set o (eT tk sz' e' w)))).eraseIdx ks).length := (List.getElem?_eq_some_iff.1 (by simpa only [hlt, if_true] using hkm2)).1
        rw [if_pos hlt, List.getElem?_set_self hl]
        simp [this]
      · rw [if_neg (Ne.symm hj)]
        split
        · rw [List.getElem?_set_ne (Ne.symm hj), List.getElem?_set_ne (Ne.symm hj)]
        · rename_i hjk
          have : km ≠ j + 1 := by omega
          rw [List.getElem?_set_ne this, List.getElem?_set_ne this]
    · simp only [hlt, if_false]
      by_cases hj : km - 1 = j
      · have : j < ((O.set km (idm, cLh e x i.toNat (cs.set o (eT tk sz' e' w)))).eraseIdx ks).length := by
          have h3 := (List.getElem?_eq_some_iff.1 hkm2).1
          rw [if_neg hlt, hj] at h3
          exact h3
        subst hj
        rw [List.getElem?_set_self this, List.getElem?_eraseIdx, if_neg (show ¬ km - 1 < ks by omega), show km - 1 + 1 = km by omega, List.getElem?_set_self hl]
      · rw [List.getElem?_set_ne hj, List.getElem?_eraseIdx, List.getElem?_eraseIdx]
        split
        · have : km ≠ j := by omega
          rw [List.getElem?_set_ne this, List.getElem?_set_ne this]
        · have : km ≠ j + 1 := by omega
          rw [List.getElem?_set_ne this, List.getElem?_set_ne this]
  rw [e1]
  exact hH3
end
end Go.Va
namespace Go.Va
theorem perm_front {α : Type} : ∀ {O : List α} (k : Nat) {p : α}, O[k]? = some p → O.Perm (p :: O.eraseIdx k)
  | [], _, _, h => by simp at h
  | a :: O, 0, p, h => by simp at h; subst h; exact .refl _
  | a :: O, k + 1, p, h => by
    simp only [List.eraseIdx_cons_succ]
    exact ((perm_front k (by simpa using h)).cons a).trans (.swap _ _ _)
theorem Holds.front {σ0 σ : St} {O : List (Nat × List AV)} {A : List Nat} (h : Holds σ0 O A σ) (k : Nat) {p : Nat × List AV} (hk : O[k]? = some p) : Holds σ0 (p :: O.eraseIdx k) A σ := h.perm (perm_front k hk)
end Go.Va
namespace Go.Va
end Go.Va
namespace Go.Va
open Go Go.RowKit
set_option linter.unusedVariables false
set_option linter.unusedSimpArgs false
section
variable {P : Program} {Ty : TypeId → Option TI} {n : Nat} {σ : St} {ops : Array Oper} {K : (Nat → AV) → St → Prop} {o : Oper} {rest : List Oper} {l : List (Nat × AV)} {t : Nat}
def gd (ops : Array Oper) (n : Nat) (o : Oper) (fr : Nat → AV) : Option Nat := match guardOf ops o fr with
  | some true => match o.dst with | some t => bif Nat.ble (t + 1) n then some t else none | none => none
  | _ => none
theorem gd_some {fr : Nat → AV} (h : gd ops n o fr = some t) : o.dst = some t ∧ Nat.ble (t + 1) n = true ∧ guardOf ops o fr = some true := by
  unfold gd at h
  split at h
  · rename_i h1
    split at h
    · rename_i u h2
      cases hb : Nat.ble (u + 1) n with
      | true => rw [hb] at h; simp only [cond_true, Option.some.injEq] at h; subst h; exact ⟨h2, hb, h1⟩
      | false => rw [hb] at h; simp at h
    · cases h
  · cases h
theorem m_ (a : AV) (h : gd ops n o (fm l) = some t) (ho : OpP P o (fm l) a) (k : wpo P n ops K rest (fm ((t, a) :: l)) σ) : wpo P n ops K (o :: rest) (fm l) σ := by
  obtain ⟨h1, h2, h3⟩ := gd_some h
  exact wpo_mv h1 h2 h3 ho k
variable {x y c : Operand} {ty : TypeId} {pos : String} {af : Array Edge} {g : Option (Nat × Bool)} {d : Option Tmp}
theorem mm (hT : TyOk P Ty) (a : AV) (h : gd ops n ⟨d, .move x, ty, pos, af, g⟩ (fm l) = some t) (hx : aeval (fm l) x = a) (k : wpo P n ops K rest (fm ((t, a) :: l)) σ) : wpo P n ops K (⟨d, .move x, ty, pos, af, g⟩ :: rest) (fm l) σ := m_ a h (o_mv hT hx (Wk.refl _)) k
theorem ma (hT : TyOk P Ty) (a : AV) (h : gd ops n ⟨d, .assign x, ty, pos, af, g⟩ (fm l) = some t) (hx : aeval (fm l) x = a) (k : wpo P n ops K rest (fm ((t, a) :: l)) σ) : wpo P n ops K (⟨d, .assign x, ty, pos, af, g⟩ :: rest) (fm l) σ := m_ a h (o_as hT hx (Wk.refl _)) k
theorem mc (hT : TyOk P Ty) (a : AV) (h : gd ops n o (fm l) = some t) (hc : callOf o = none) (ho : ∀ τ, aop Ty false o (aeval (fm l)) τ = some (a, τ)) (k : wpo P n ops K rest (fm ((t, a) :: l)) σ) : wpo P n ops K (o :: rest) (fm l) σ := m_ a h (o_c hT false hc ho) k
def gk (ops : Array Oper) (n : Nat) (o : Oper) (fr : Nat → AV) : Option Nat := match guardOf ops o fr with
  | some false => match o.dst with | some t => bif Nat.ble (t + 1) n then some t else none | none => none
  | _ => none
theorem k_ (h : gk ops n o (fm l) = some t) (k : wpo P n ops K rest (fm ((t, .tup []) :: l)) σ) : wpo P n ops K (o :: rest) (fm l) σ := by
  unfold gk at h
  split at h
  · rename_i h1
    split at h
    · rename_i u h2
      cases hb : Nat.ble (u + 1) n with
      | true => rw [hb] at h; simp only [cond_true, Option.some.injEq] at h; subst h; exact wpo_skip h2 hb h1 k
      | false => rw [hb] at h; simp at h
    · cases h
  · cases h
theorem l_ {α β : Type} {z : α} {f : α → Option β} {r : β} (H : lt z f = some r) (enc : α → AV) (h : gd ops n o (fm l) = some t) (ho : OpP P o (fm l) (enc z)) (k : ∀ x, f x = some r → wpo P n ops K rest (fm ((t, enc x) :: l)) σ) : wpo P n ops K (o :: rest) (fm l) σ := by
  obtain ⟨h1, h2, h3⟩ := gd_some h
  exact wpo_lt H enc h1 h2 h3 ho k
theorem b_ {α β : Type} {z : Option α} {f : α → Option β} {r : β} (H : z.bind f = some r) (enc : α → AV) (h : gd ops n o (fm l) = some t) (ho : ∀ x, z = some x → OpP P o (fm l) (enc x)) (k : ∀ x, z = some x → f x = some r → wpo P n ops K rest (fm ((t, enc x) :: l)) σ) : wpo P n ops K (o :: rest) (fm l) σ := by
  obtain ⟨h1, h2, h3⟩ := gd_some h
  exact wpo_bd H enc h1 h2 h3 ho k
theorem pt (hT : TyOk P Ty) (a : AV) (h : gd ops n ⟨d, .pick c x y, ty, pos, af, g⟩ (fm l) = some t) (hc : aeval (fm l) c = .bool true) (hx : aeval (fm l) x = a) (k : wpo P n ops K rest (fm ((t, a) :: l)) σ) : wpo P n ops K (⟨d, .pick c x y, ty, pos, af, g⟩ :: rest) (fm l) σ := m_ a h (o_pick_t hT hc hx (Wk.refl _)) k
theorem pf (hT : TyOk P Ty) (a : AV) (h : gd ops n ⟨d, .pick c x y, ty, pos, af, g⟩ (fm l) = some t) (hc : aeval (fm l) c = .bool false) (hx : aeval (fm l) y = a) (k : wpo P n ops K rest (fm ((t, a) :: l)) σ) : wpo P n ops K (⟨d, .pick c x y, ty, pos, af, g⟩ :: rest) (fm l) σ := m_ a h (o_pick_f hT hc hx (Wk.refl _)) k
theorem sr {id : Nat} {y : Code} {Q : AExit → (Nat → AV) → St → Prop} {fr : Nat → AV} (hd : allDst n ops = true) (h : wpo P n ops (thenQ (AWP P n y Q) Q .normal) ops.toList fr σ) : AWP P n (.seq (.region id ops false) y) Q fr σ := awp_seq (awp_region hd h)
end
theorem ob {α β : Type} {x : Option α} {f : α → Option β} {b : β} (h : x.bind f = some b) : ∃ a, x = some a ∧ f a = some b := Option.bind_eq_some_iff.1 h
theorem nb {a b : Nat} (h : Nat.ble a b = true) : a ≤ b := Nat.le_of_ble_eq_true h
theorem wr {a : AV} : Wk a a := .refl a
theorem wc {f : Nat → AV} {t : Nat} {l : List (Nat × AV)} (k : WkF f (fm l)) : WkF f (fm ((t, f t) :: l)) := wkf_cons (.refl _) k
theorem oi {α : Type} {x y : α} (h : some x = some y) : x = y := Option.some.inj h
end Go.Va
namespace Go.Proofs.YtedcgeghgbgonaaDoor
open Go Go.Va
set_option linter.unusedSimpArgs false
def ty : TypeId → Option TI
  | 1 => some ⟨.func, 1, 8, .nilf⟩
  | 2 => some ⟨.int .i64, 1, 8, .int .i64 0⟩
  | 3 => some ⟨.int .i64, 1, 8, .int .i64 0⟩
  | 4 => some ⟨.bool, 1, 1, .bool false⟩
  | 5 => some ⟨.int .u8, 1, 1, .int .u8 0⟩
  | 6 => some ⟨.int .u8, 1, 1, .int .u8 0⟩
  | 7 => some ⟨.struct [(0, 2), (1, 3), (2, 4), (3, 6)], 4, 24, .agg [.int .i64 0, .int .i64 0, .bool false, .int .u8 0]⟩
  | 8 => some ⟨.struct [(0, 2), (1, 3), (2, 4), (3, 6)], 4, 24, .agg [.int .i64 0, .int .i64 0, .bool false, .int .u8 0]⟩
  | 9 => some ⟨.str, 1, 16, .str ⟨#[]⟩⟩
  | 10 => some ⟨.str, 1, 16, .str ⟨#[]⟩⟩
  | 11 => some ⟨.str, 1, 16, .str ⟨#[]⟩⟩
  | 12 => some ⟨.int .u64, 1, 8, .int .u64 0⟩
  | 13 => some ⟨.struct [(0, 9), (1, 12)], 2, 24, .agg [.str ⟨#[]⟩, .int .u64 0]⟩
  | 14 => some ⟨.struct [(0, 9), (1, 12)], 2, 24, .agg [.str ⟨#[]⟩, .int .u64 0]⟩
  | 15 => some ⟨.ptr 131, 1, 8, .nilp⟩
  | 16 => some ⟨.ptr 134, 1, 8, .nilp⟩
  | 17 => some ⟨.ptr 142, 1, 8, .nilp⟩
  | 18 => some ⟨.struct [(0, 17)], 1, 8, .agg [.nilp]⟩
  | 19 => some ⟨.struct [(0, 17)], 1, 8, .agg [.nilp]⟩
  | 20 => some ⟨.iface, 1, 16, .nili⟩
  | 21 => some ⟨.int .i32, 1, 4, .int .i32 0⟩
  | 22 => some ⟨.slice 29, 1, 24, .nils⟩
  | 23 => some ⟨.func, 1, 8, .nilf⟩
  | 24 => some ⟨.func, 1, 8, .nilf⟩
  | 25 => some ⟨.ptr 51, 1, 8, .nilp⟩
  | 26 => some ⟨.func, 1, 8, .nilf⟩
  | 27 => some ⟨.slice 35, 1, 24, .nils⟩
  | 28 => some ⟨.struct [(0, 3), (1, 27), (2, 3), (3, 3), (4, 5)], 5, 56, .agg [.int .i64 0, .nils, .int .i64 0, .int .i64 0, .int .u8 0]⟩
  | 29 => some ⟨.struct [(0, 3), (1, 27), (2, 3), (3, 3), (4, 5)], 5, 56, .agg [.int .i64 0, .nils, .int .i64 0, .int .i64 0, .int .u8 0]⟩
  | 30 => some ⟨.func, 1, 8, .nilf⟩
  | 31 => some ⟨.slice 5, 1, 24, .nils⟩
  | 32 => some ⟨.struct [(0, 9), (1, 3), (2, 3), (3, 3), (4, 31)], 5, 64, .agg [.str ⟨#[]⟩, .int .i64 0, .int .i64 0, .int .i64 0, .nils]⟩
  | 33 => some ⟨.struct [(0, 9), (1, 3), (2, 3), (3, 3), (4, 31)], 5, 64, .agg [.str ⟨#[]⟩, .int .i64 0, .int .i64 0, .int .i64 0, .nils]⟩
  | 34 => some ⟨.struct [(0, 3), (1, 3), (2, 3), (3, 3), (4, 3), (5, 33), (10, 4)], 11, 112, .agg [.int .i64 0, .int .i64 0, .int .i64 0, .int .i64 0, .int .i64 0, .str ⟨#[]⟩, .int .i64 0, .int .i64 0, .int .i64 0, .nils, .bool false]⟩
  | 35 => some ⟨.struct [(0, 3), (1, 3), (2, 3), (3, 3), (4, 3), (5, 33), (10, 4)], 11, 112, .agg [.int .i64 0, .int .i64 0, .int .i64 0, .int .i64 0, .int .i64 0, .str ⟨#[]⟩, .int .i64 0, .int .i64 0, .int .i64 0, .nils, .bool false]⟩
  | 36 => some ⟨.iface, 1, 16, .nili⟩
  | 37 => some ⟨.iface, 1, 16, .nili⟩
  | 39 => some ⟨.func, 1, 8, .nilf⟩
  | 40 => some ⟨.func, 1, 8, .nilf⟩
  | 41 => some ⟨.func, 1, 8, .nilf⟩
  | 42 => some ⟨.func, 1, 8, .nilf⟩
  | 43 => some ⟨.func, 1, 8, .nilf⟩
  | 44 => some ⟨.slice 33, 1, 24, .nils⟩
  | 45 => some ⟨.func, 1, 8, .nilf⟩
  | 46 => some ⟨.int .i64, 1, 8, .int .i64 0⟩
  | 47 => some ⟨.func, 1, 8, .nilf⟩
  | 48 => some ⟨.func, 1, 8, .nilf⟩
  | 49 => some ⟨.slice 55, 1, 24, .nils⟩
  | 50 => some ⟨.struct [(0, 49), (1, 3)], 2, 32, .agg [.nils, .int .i64 0]⟩
  | 51 => some ⟨.struct [(0, 49), (1, 3)], 2, 32, .agg [.nils, .int .i64 0]⟩
  | 53 => some ⟨.func, 1, 8, .nilf⟩
  | 54 => some ⟨.struct [(0, 31), (1, 4)], 2, 32, .agg [.nils, .bool false]⟩
  | 55 => some ⟨.struct [(0, 31), (1, 4)], 2, 32, .agg [.nils, .bool false]⟩
  | 56 => some ⟨.func, 1, 8, .nilf⟩
  | 57 => some ⟨.func, 1, 8, .nilf⟩
  | 58 => some ⟨.func, 1, 8, .nilf⟩
  | 59 => some ⟨.func, 1, 8, .nilf⟩
  | 60 => some ⟨.func, 1, 8, .nilf⟩
  | 61 => some ⟨.func, 1, 8, .nilf⟩
  | 62 => some ⟨.ptr 55, 1, 8, .nilp⟩
  | 63 => some ⟨.func, 1, 8, .nilf⟩
  | 64 => some ⟨.ptr 68, 1, 8, .nilp⟩
  | 65 => some ⟨.func, 1, 8, .nilf⟩
  | 66 => some ⟨.ptr 64, 1, 8, .nilp⟩
  | 67 => some ⟨.struct [(0, 9), (1, 3), (2, 46), (3, 37)], 4, 48, .agg [.str ⟨#[]⟩, .int .i64 0, .int .i64 0, .nili]⟩
  | 68 => some ⟨.struct [(0, 9), (1, 3), (2, 46), (3, 37)], 4, 48, .agg [.str ⟨#[]⟩, .int .i64 0, .int .i64 0, .nili]⟩
  | 69 => some ⟨.func, 1, 8, .nilf⟩
  | 70 => some ⟨.func, 1, 8, .nilf⟩
  | 71 => some ⟨.func, 1, 8, .nilf⟩
  | 72 => some ⟨.func, 1, 8, .nilf⟩
  | 73 => some ⟨.func, 1, 8, .nilf⟩
  | 74 => some ⟨.func, 1, 8, .nilf⟩
  | 75 => some ⟨.struct [(0, 46)], 1, 8, .agg [.int .i64 0]⟩
  | 76 => some ⟨.struct [(0, 46)], 1, 8, .agg [.int .i64 0]⟩
  | 77 => some ⟨.func, 1, 8, .nilf⟩
  | 79 => some ⟨.int .u64, 1, 8, .int .u64 0⟩
  | 82 => some ⟨.func, 1, 8, .nilf⟩
  | 83 => some ⟨.iface, 1, 16, .nili⟩
  | 84 => some ⟨.iface, 1, 16, .nili⟩
  | 85 => some ⟨.func, 1, 8, .nilf⟩
  | 86 => some ⟨.int .u8, 1, 1, .int .u8 0⟩
  | 87 => some ⟨.func, 1, 8, .nilf⟩
  | 88 => some ⟨.func, 1, 8, .nilf⟩
  | 89 => some ⟨.func, 1, 8, .nilf⟩
  | 90 => some ⟨.func, 1, 8, .nilf⟩
  | 91 => some ⟨.func, 1, 8, .nilf⟩
  | 92 => some ⟨.func, 1, 8, .nilf⟩
  | 93 => some ⟨.slice 3, 1, 24, .nils⟩
  | 94 => some ⟨.arr 4 5, 4, 4, .agg [.int .u8 0, .int .u8 0, .int .u8 0, .int .u8 0]⟩
  | 95 => some ⟨.func, 1, 8, .nilf⟩
  | 96 => some ⟨.int .u32, 1, 4, .int .u32 0⟩
  | 97 => some ⟨.func, 1, 8, .nilf⟩
  | 98 => some ⟨.func, 1, 8, .nilf⟩
  | 99 => some ⟨.ptr 123, 1, 8, .nilp⟩
  | 100 => some ⟨.func, 1, 8, .nilf⟩
  | 101 => some ⟨.func, 1, 8, .nilf⟩
  | 102 => some ⟨.func, 1, 8, .nilf⟩
  | 103 => some ⟨.func, 1, 8, .nilf⟩
  | 104 => some ⟨.func, 1, 8, .nilf⟩
  | 105 => some ⟨.func, 1, 8, .nilf⟩
  | 106 => some ⟨.struct [(0, 17)], 1, 8, .agg [.nilp]⟩
  | 107 => some ⟨.struct [(0, 17)], 1, 8, .agg [.nilp]⟩
  | 108 => some ⟨.ptr 147, 1, 8, .nilp⟩
  | 109 => some ⟨.func, 1, 8, .nilf⟩
  | 110 => some ⟨.func, 1, 8, .nilf⟩
  | 111 => some ⟨.iface, 1, 16, .nili⟩
  | 113 => some ⟨.func, 1, 8, .nilf⟩
  | 114 => some ⟨.iface, 1, 16, .nili⟩
  | 115 => some ⟨.func, 1, 8, .nilf⟩
  | 116 => some ⟨.iface, 1, 16, .nili⟩
  | 117 => some ⟨.slice 37, 1, 24, .nils⟩
  | 118 => some ⟨.func, 1, 8, .nilf⟩
  | 119 => some ⟨.func, 1, 8, .nilf⟩
  | 120 => some ⟨.int .u64, 1, 8, .int .u64 0⟩
  | 121 => some ⟨.func, 1, 8, .nilf⟩
  | 122 => some ⟨.struct [(0, 31), (1, 3), (2, 46)], 3, 40, .agg [.nils, .int .i64 0, .int .i64 0]⟩
  | 123 => some ⟨.struct [(0, 31), (1, 3), (2, 46)], 3, 40, .agg [.nils, .int .i64 0, .int .i64 0]⟩
  | 124 => some ⟨.func, 1, 8, .nilf⟩
  | 125 => some ⟨.iface, 1, 16, .nili⟩
  | 127 => some ⟨.func, 1, 8, .nilf⟩
  | 128 => some ⟨.func, 1, 8, .nilf⟩
  | 129 => some ⟨.func, 1, 8, .nilf⟩
  | 130 => some ⟨.struct [(0, 17), (1, 17), (2, 17), (3, 9)], 4, 40, .agg [.nilp, .nilp, .nilp, .str ⟨#[]⟩]⟩
  | 131 => some ⟨.struct [(0, 17), (1, 17), (2, 17), (3, 9)], 4, 40, .agg [.nilp, .nilp, .nilp, .str ⟨#[]⟩]⟩
  | 135 => some ⟨.func, 1, 8, .nilf⟩
  | 136 => some ⟨.int .u8, 1, 1, .int .u8 0⟩
  | 137 => some ⟨.func, 1, 8, .nilf⟩
  | 138 => some ⟨.ptr 5, 1, 8, .nilp⟩
  | 139 => some ⟨.int .i32, 1, 4, .int .i32 0⟩
  | 140 => some ⟨.int .i32, 1, 4, .int .i32 0⟩
  | 141 => some ⟨.struct [(0, 12), (1, 12), (2, 96), (3, 136), (4, 5), (5, 5), (6, 86), (7, 137), (8, 138), (9, 139), (10, 140)], 11, 48, .agg [.int .u64 0, .int .u64 0, .int .u32 0, .int .u8 0, .int .u8 0, .int .u8 0, .int .u8 0, .nilf, .nilp, .int .i32 0, .int .i32 0]⟩
  | 142 => some ⟨.struct [(0, 12), (1, 12), (2, 96), (3, 136), (4, 5), (5, 5), (6, 86), (7, 137), (8, 138), (9, 139), (10, 140)], 11, 48, .agg [.int .u64 0, .int .u64 0, .int .u32 0, .int .u8 0, .int .u8 0, .int .u8 0, .int .u8 0, .nilf, .nilp, .int .i32 0, .int .i32 0]⟩
  | 144 => some ⟨.func, 1, 8, .nilf⟩
  | 145 => some ⟨.func, 1, 8, .nilf⟩
  | 146 => some ⟨.struct [(0, 9), (1, 86)], 2, 24, .agg [.str ⟨#[]⟩, .int .u8 0]⟩
  | 147 => some ⟨.struct [(0, 9), (1, 86)], 2, 24, .agg [.str ⟨#[]⟩, .int .u8 0]⟩
  | 148 => some ⟨.ptr 152, 1, 8, .nilp⟩
  | 149 => some ⟨.func, 1, 8, .nilf⟩
  | 150 => some ⟨.int .u16, 1, 2, .int .u16 0⟩
  | 151 => some ⟨.struct [(0, 139), (1, 150), (2, 150), (3, 96), (4, 96)], 5, 16, .agg [.int .i32 0, .int .u16 0, .int .u16 0, .int .u32 0, .int .u32 0]⟩
  | 152 => some ⟨.struct [(0, 139), (1, 150), (2, 150), (3, 96), (4, 96)], 5, 16, .agg [.int .i32 0, .int .u16 0, .int .u16 0, .int .u32 0, .int .u32 0]⟩
  | 153 => some ⟨.slice 156, 1, 24, .nils⟩
  | 154 => some ⟨.int .i32, 1, 4, .int .i32 0⟩
  | 155 => some ⟨.struct [(0, 139), (1, 140), (2, 154), (3, 154)], 4, 16, .agg [.int .i32 0, .int .i32 0, .int .i32 0, .int .i32 0]⟩
  | 156 => some ⟨.struct [(0, 139), (1, 140), (2, 154), (3, 154)], 4, 16, .agg [.int .i32 0, .int .i32 0, .int .i32 0, .int .i32 0]⟩
  | 157 => some ⟨.ptr 37, 1, 8, .nilp⟩
  | _ => none
theorem ty3 : ty 3 = some ⟨.int .i64, 1, 8, .int .i64 0⟩ := rfl
theorem td3 : tdOf ty 3 = .int .i64 := rfl
theorem sz3 : szOf ty 3 = 1 := rfl
theorem ty4 : ty 4 = some ⟨.bool, 1, 1, .bool false⟩ := rfl
theorem td4 : tdOf ty 4 = .bool := rfl
theorem sz4 : szOf ty 4 = 1 := rfl
theorem ty5 : ty 5 = some ⟨.int .u8, 1, 1, .int .u8 0⟩ := rfl
theorem td5 : tdOf ty 5 = .int .u8 := rfl
theorem sz5 : szOf ty 5 = 1 := rfl
theorem ty9 : ty 9 = some ⟨.str, 1, 16, .str ⟨#[]⟩⟩ := rfl
theorem td9 : tdOf ty 9 = .str := rfl
theorem sz9 : szOf ty 9 = 1 := rfl
theorem td22 : tdOf ty 22 = .slice 29 := rfl
theorem sz22 : szOf ty 22 = 1 := rfl
theorem td27 : tdOf ty 27 = .slice 35 := rfl
theorem sz27 : szOf ty 27 = 1 := rfl
theorem ty29 : ty 29 = some ⟨.struct [(0, 3), (1, 27), (2, 3), (3, 3), (4, 5)], 5, 56, .agg [.int .i64 0, .nils, .int .i64 0, .int .i64 0, .int .u8 0]⟩ := rfl
theorem sz29 : szOf ty 29 = 5 := rfl
theorem ty31 : ty 31 = some ⟨.slice 5, 1, 24, .nils⟩ := rfl
theorem td31 : tdOf ty 31 = .slice 5 := rfl
theorem sz31 : szOf ty 31 = 1 := rfl
theorem ty33 : ty 33 = some ⟨.struct [(0, 9), (1, 3), (2, 3), (3, 3), (4, 31)], 5, 64, .agg [.str ⟨#[]⟩, .int .i64 0, .int .i64 0, .int .i64 0, .nils]⟩ := rfl
theorem sz33 : szOf ty 33 = 5 := rfl
theorem ty35 : ty 35 = some ⟨.struct [(0, 3), (1, 3), (2, 3), (3, 3), (4, 3), (5, 33), (10, 4)], 11, 112, .agg [.int .i64 0, .int .i64 0, .int .i64 0, .int .i64 0, .int .i64 0, .str ⟨#[]⟩, .int .i64 0, .int .i64 0, .int .i64 0, .nils, .bool false]⟩ := rfl
theorem sz35 : szOf ty 35 = 11 := rfl
theorem ty37 : ty 37 = some ⟨.iface, 1, 16, .nili⟩ := rfl
theorem td37 : tdOf ty 37 = .iface := rfl
theorem sz37 : szOf ty 37 = 1 := rfl
theorem td44 : tdOf ty 44 = .slice 33 := rfl
theorem ty46 : ty 46 = some ⟨.int .i64, 1, 8, .int .i64 0⟩ := rfl
theorem td46 : tdOf ty 46 = .int .i64 := rfl
theorem sz46 : szOf ty 46 = 1 := rfl
theorem ty49 : ty 49 = some ⟨.slice 55, 1, 24, .nils⟩ := rfl
theorem td49 : tdOf ty 49 = .slice 55 := rfl
theorem ty55 : ty 55 = some ⟨.struct [(0, 31), (1, 4)], 2, 32, .agg [.nils, .bool false]⟩ := rfl
theorem sz55 : szOf ty 55 = 2 := rfl
theorem ty64 : ty 64 = some ⟨.ptr 68, 1, 8, .nilp⟩ := rfl
theorem sz68 : szOf ty 68 = 4 := rfl
theorem ty76 : ty 76 = some ⟨.struct [(0, 46)], 1, 8, .agg [.int .i64 0]⟩ := rfl
theorem td93 : tdOf ty 93 = .slice 3 := rfl
theorem ty94 : ty 94 = some ⟨.arr 4 5, 4, 4, .agg [.int .u8 0, .int .u8 0, .int .u8 0, .int .u8 0]⟩ := rfl
theorem td94 : tdOf ty 94 = .arr 4 5 := rfl
theorem sz94 : szOf ty 94 = 4 := rfl
theorem td96 : tdOf ty 96 = .int .u32 := rfl
theorem sz96 : szOf ty 96 = 1 := rfl
theorem sz123 : szOf ty 123 = 3 := rfl
theorem ok1 : TiOk Tryd.prog 1 ⟨.func, 1, 8, .nilf⟩ := tiOk_mk (.nilFunc) ⟨_, _, _, Tryd.underlying1⟩ (by kernel_rfl) rfl rfl rfl (by simp [Value.cells, Value.oneCell'])
theorem ok2 : TiOk Tryd.prog 2 ⟨.int .i64, 1, 8, .int .i64 0⟩ := tiOk_mk (.int .i64 0) Tryd.underlying2 (by kernel_rfl) rfl rfl rfl (by simp [Value.cells, Value.oneCell'])
theorem ok3 : TiOk Tryd.prog 3 ⟨.int .i64, 1, 8, .int .i64 0⟩ := tiOk_mk (.int .i64 0) Tryd.underlying3 (by kernel_rfl) rfl rfl rfl (by simp [Value.cells, Value.oneCell'])
theorem ok4 : TiOk Tryd.prog 4 ⟨.bool, 1, 1, .bool false⟩ := tiOk_mk (.bool false) Tryd.underlying4 (by kernel_rfl) rfl rfl rfl (by simp [Value.cells, Value.oneCell'])
theorem ok5 : TiOk Tryd.prog 5 ⟨.int .u8, 1, 1, .int .u8 0⟩ := tiOk_mk (.int .u8 0) Tryd.underlying5 (by kernel_rfl) rfl rfl rfl (by simp [Value.cells, Value.oneCell'])
theorem ok6 : TiOk Tryd.prog 6 ⟨.int .u8, 1, 1, .int .u8 0⟩ := tiOk_mk (.int .u8 0) Tryd.underlying6 (by kernel_rfl) rfl rfl rfl (by simp [Value.cells, Value.oneCell'])
theorem ok7 : TiOk Tryd.prog 7 ⟨.struct [(0, 2), (1, 3), (2, 4), (3, 6)], 4, 24, .agg [.int .i64 0, .int .i64 0, .bool false, .int .u8 0]⟩ := tiOk_mk (.agg #[.int .i64 0, .int .i64 0, .bool false, .int .u8 0]) ⟨_, Tryd.underlying7, rfl⟩ (by kernel_rfl) rfl rfl rfl (by simp [Value.cells, Value.oneCell'])
theorem ok8 : TiOk Tryd.prog 8 ⟨.struct [(0, 2), (1, 3), (2, 4), (3, 6)], 4, 24, .agg [.int .i64 0, .int .i64 0, .bool false, .int .u8 0]⟩ := tiOk_mk (.agg #[.int .i64 0, .int .i64 0, .bool false, .int .u8 0]) ⟨_, Tryd.underlying8, rfl⟩ (by kernel_rfl) rfl rfl rfl (by simp [Value.cells, Value.oneCell'])
theorem ok9 : TiOk Tryd.prog 9 ⟨.str, 1, 16, .str ⟨#[]⟩⟩ := tiOk_mk (.string ⟨#[]⟩) Tryd.underlying9 (by kernel_rfl) rfl rfl rfl (by simp [Value.cells, Value.oneCell'])
theorem ok10 : TiOk Tryd.prog 10 ⟨.str, 1, 16, .str ⟨#[]⟩⟩ := tiOk_mk (.string ⟨#[]⟩) Tryd.underlying10 (by kernel_rfl) rfl rfl rfl (by simp [Value.cells, Value.oneCell'])
theorem ok11 : TiOk Tryd.prog 11 ⟨.str, 1, 16, .str ⟨#[]⟩⟩ := tiOk_mk (.string ⟨#[]⟩) Tryd.underlying11 (by kernel_rfl) rfl rfl rfl (by simp [Value.cells, Value.oneCell'])
theorem ok12 : TiOk Tryd.prog 12 ⟨.int .u64, 1, 8, .int .u64 0⟩ := tiOk_mk (.int .u64 0) Tryd.underlying12 (by kernel_rfl) rfl rfl rfl (by simp [Value.cells, Value.oneCell'])
theorem ok13 : TiOk Tryd.prog 13 ⟨.struct [(0, 9), (1, 12)], 2, 24, .agg [.str ⟨#[]⟩, .int .u64 0]⟩ := tiOk_mk (.agg #[.string ⟨#[]⟩, .int .u64 0]) ⟨_, Tryd.underlying13, rfl⟩ (by kernel_rfl) rfl rfl rfl (by simp [Value.cells, Value.oneCell'])
theorem ok14 : TiOk Tryd.prog 14 ⟨.struct [(0, 9), (1, 12)], 2, 24, .agg [.str ⟨#[]⟩, .int .u64 0]⟩ := tiOk_mk (.agg #[.string ⟨#[]⟩, .int .u64 0]) ⟨_, Tryd.underlying14, rfl⟩ (by kernel_rfl) rfl rfl rfl (by simp [Value.cells, Value.oneCell'])
theorem ok15 : TiOk Tryd.prog 15 ⟨.ptr 131, 1, 8, .nilp⟩ := tiOk_mk (.pointer none) Tryd.underlying15 (by kernel_rfl) rfl rfl rfl (by simp [Value.cells, Value.oneCell'])
theorem ok16 : TiOk Tryd.prog 16 ⟨.ptr 134, 1, 8, .nilp⟩ := tiOk_mk (.pointer none) Tryd.underlying16 (by kernel_rfl) rfl rfl rfl (by simp [Value.cells, Value.oneCell'])
theorem ok17 : TiOk Tryd.prog 17 ⟨.ptr 142, 1, 8, .nilp⟩ := tiOk_mk (.pointer none) Tryd.underlying17 (by kernel_rfl) rfl rfl rfl (by simp [Value.cells, Value.oneCell'])
theorem ok18 : TiOk Tryd.prog 18 ⟨.struct [(0, 17)], 1, 8, .agg [.nilp]⟩ := tiOk_mk (.agg #[.pointer none]) ⟨_, Tryd.underlying18, rfl⟩ (by kernel_rfl) rfl rfl rfl (by simp [Value.cells, Value.oneCell'])
theorem ok19 : TiOk Tryd.prog 19 ⟨.struct [(0, 17)], 1, 8, .agg [.nilp]⟩ := tiOk_mk (.agg #[.pointer none]) ⟨_, Tryd.underlying19, rfl⟩ (by kernel_rfl) rfl rfl rfl (by simp [Value.cells, Value.oneCell'])
theorem ok20 : TiOk Tryd.prog 20 ⟨.iface, 1, 16, .nili⟩ := tiOk_mk (.nilIface) ⟨_, Tryd.underlying20⟩ (by kernel_rfl) rfl rfl rfl (by simp [Value.cells, Value.oneCell'])
theorem ok21 : TiOk Tryd.prog 21 ⟨.int .i32, 1, 4, .int .i32 0⟩ := tiOk_mk (.int .i32 0) Tryd.underlying21 (by kernel_rfl) rfl rfl rfl (by simp [Value.cells, Value.oneCell'])
theorem ok22 : TiOk Tryd.prog 22 ⟨.slice 29, 1, 24, .nils⟩ := tiOk_mk (.slice none 0 0) Tryd.underlying22 (by kernel_rfl) rfl rfl rfl (by simp [Value.cells, Value.oneCell'])
theorem ok23 : TiOk Tryd.prog 23 ⟨.func, 1, 8, .nilf⟩ := tiOk_mk (.nilFunc) ⟨_, _, _, Tryd.underlying23⟩ (by kernel_rfl) rfl rfl rfl (by simp [Value.cells, Value.oneCell'])
theorem ok24 : TiOk Tryd.prog 24 ⟨.func, 1, 8, .nilf⟩ := tiOk_mk (.nilFunc) ⟨_, _, _, Tryd.underlying24⟩ (by kernel_rfl) rfl rfl rfl (by simp [Value.cells, Value.oneCell'])
theorem ok25 : TiOk Tryd.prog 25 ⟨.ptr 51, 1, 8, .nilp⟩ := tiOk_mk (.pointer none) Tryd.underlying25 (by kernel_rfl) rfl rfl rfl (by simp [Value.cells, Value.oneCell'])
theorem ok26 : TiOk Tryd.prog 26 ⟨.func, 1, 8, .nilf⟩ := tiOk_mk (.nilFunc) ⟨_, _, _, Tryd.underlying26⟩ (by kernel_rfl) rfl rfl rfl (by simp [Value.cells, Value.oneCell'])
theorem ok27 : TiOk Tryd.prog 27 ⟨.slice 35, 1, 24, .nils⟩ := tiOk_mk (.slice none 0 0) Tryd.underlying27 (by kernel_rfl) rfl rfl rfl (by simp [Value.cells, Value.oneCell'])
theorem ok28 : TiOk Tryd.prog 28 ⟨.struct [(0, 3), (1, 27), (2, 3), (3, 3), (4, 5)], 5, 56, .agg [.int .i64 0, .nils, .int .i64 0, .int .i64 0, .int .u8 0]⟩ := tiOk_mk (.agg #[.int .i64 0, .slice none 0 0, .int .i64 0, .int .i64 0, .int .u8 0]) ⟨_, Tryd.underlying28, rfl⟩ (by kernel_rfl) rfl rfl rfl (by simp [Value.cells, Value.oneCell'])
theorem ok29 : TiOk Tryd.prog 29 ⟨.struct [(0, 3), (1, 27), (2, 3), (3, 3), (4, 5)], 5, 56, .agg [.int .i64 0, .nils, .int .i64 0, .int .i64 0, .int .u8 0]⟩ := tiOk_mk (.agg #[.int .i64 0, .slice none 0 0, .int .i64 0, .int .i64 0, .int .u8 0]) ⟨_, Tryd.underlying29, rfl⟩ (by kernel_rfl) rfl rfl rfl (by simp [Value.cells, Value.oneCell'])
theorem ok30 : TiOk Tryd.prog 30 ⟨.func, 1, 8, .nilf⟩ := tiOk_mk (.nilFunc) ⟨_, _, _, Tryd.underlying30⟩ (by kernel_rfl) rfl rfl rfl (by simp [Value.cells, Value.oneCell'])
theorem ok31 : TiOk Tryd.prog 31 ⟨.slice 5, 1, 24, .nils⟩ := tiOk_mk (.slice none 0 0) Tryd.underlying31 (by kernel_rfl) rfl rfl rfl (by simp [Value.cells, Value.oneCell'])
theorem ok32 : TiOk Tryd.prog 32 ⟨.struct [(0, 9), (1, 3), (2, 3), (3, 3), (4, 31)], 5, 64, .agg [.str ⟨#[]⟩, .int .i64 0, .int .i64 0, .int .i64 0, .nils]⟩ := tiOk_mk (.agg #[.string ⟨#[]⟩, .int .i64 0, .int .i64 0, .int .i64 0, .slice none 0 0]) ⟨_, Tryd.underlying32, rfl⟩ (by kernel_rfl) rfl rfl rfl (by simp [Value.cells, Value.oneCell'])
theorem ok33 : TiOk Tryd.prog 33 ⟨.struct [(0, 9), (1, 3), (2, 3), (3, 3), (4, 31)], 5, 64, .agg [.str ⟨#[]⟩, .int .i64 0, .int .i64 0, .int .i64 0, .nils]⟩ := tiOk_mk (.agg #[.string ⟨#[]⟩, .int .i64 0, .int .i64 0, .int .i64 0, .slice none 0 0]) ⟨_, Tryd.underlying33, rfl⟩ (by kernel_rfl) rfl rfl rfl (by simp [Value.cells, Value.oneCell'])
theorem ok34 : TiOk Tryd.prog 34 ⟨.struct [(0, 3), (1, 3), (2, 3), (3, 3), (4, 3), (5, 33), (10, 4)], 11, 112, .agg [.int .i64 0, .int .i64 0, .int .i64 0, .int .i64 0, .int .i64 0, .str ⟨#[]⟩, .int .i64 0, .int .i64 0, .int .i64 0, .nils, .bool false]⟩ := tiOk_mk (.agg #[.int .i64 0, .int .i64 0, .int .i64 0, .int .i64 0, .int .i64 0, .string ⟨#[]⟩, .int .i64 0, .int .i64 0, .int .i64 0, .slice none 0 0, .bool false]) ⟨_, Tryd.underlying34, rfl⟩ (by kernel_rfl) rfl rfl rfl (by simp [Value.cells, Value.oneCell'])
theorem ok35 : TiOk Tryd.prog 35 ⟨.struct [(0, 3), (1, 3), (2, 3), (3, 3), (4, 3), (5, 33), (10, 4)], 11, 112, .agg [.int .i64 0, .int .i64 0, .int .i64 0, .int .i64 0, .int .i64 0, .str ⟨#[]⟩, .int .i64 0, .int .i64 0, .int .i64 0, .nils, .bool false]⟩ := tiOk_mk (.agg #[.int .i64 0, .int .i64 0, .int .i64 0, .int .i64 0, .int .i64 0, .string ⟨#[]⟩, .int .i64 0, .int .i64 0, .int .i64 0, .slice none 0 0, .bool false]) ⟨_, Tryd.underlying35, rfl⟩ (by kernel_rfl) rfl rfl rfl (by simp [Value.cells, Value.oneCell'])
theorem ok36 : TiOk Tryd.prog 36 ⟨.iface, 1, 16, .nili⟩ := tiOk_mk (.nilIface) ⟨_, Tryd.underlying36⟩ (by kernel_rfl) rfl rfl rfl (by simp [Value.cells, Value.oneCell'])
theorem ok37 : TiOk Tryd.prog 37 ⟨.iface, 1, 16, .nili⟩ := tiOk_mk (.nilIface) ⟨_, Tryd.underlying37⟩ (by kernel_rfl) rfl rfl rfl (by simp [Value.cells, Value.oneCell'])
theorem ok39 : TiOk Tryd.prog 39 ⟨.func, 1, 8, .nilf⟩ := tiOk_mk (.nilFunc) ⟨_, _, _, Tryd.underlying39⟩ (by kernel_rfl) rfl rfl rfl (by simp [Value.cells, Value.oneCell'])
theorem ok40 : TiOk Tryd.prog 40 ⟨.func, 1, 8, .nilf⟩ := tiOk_mk (.nilFunc) ⟨_, _, _, Tryd.underlying40⟩ (by kernel_rfl) rfl rfl rfl (by simp [Value.cells, Value.oneCell'])
theorem ok41 : TiOk Tryd.prog 41 ⟨.func, 1, 8, .nilf⟩ := tiOk_mk (.nilFunc) ⟨_, _, _, Tryd.underlying41⟩ (by kernel_rfl) rfl rfl rfl (by simp [Value.cells, Value.oneCell'])
theorem ok42 : TiOk Tryd.prog 42 ⟨.func, 1, 8, .nilf⟩ := tiOk_mk (.nilFunc) ⟨_, _, _, Tryd.underlying42⟩ (by kernel_rfl) rfl rfl rfl (by simp [Value.cells, Value.oneCell'])
theorem ok43 : TiOk Tryd.prog 43 ⟨.func, 1, 8, .nilf⟩ := tiOk_mk (.nilFunc) ⟨_, _, _, Tryd.underlying43⟩ (by kernel_rfl) rfl rfl rfl (by simp [Value.cells, Value.oneCell'])
theorem ok44 : TiOk Tryd.prog 44 ⟨.slice 33, 1, 24, .nils⟩ := tiOk_mk (.slice none 0 0) Tryd.underlying44 (by kernel_rfl) rfl rfl rfl (by simp [Value.cells, Value.oneCell'])
theorem ok45 : TiOk Tryd.prog 45 ⟨.func, 1, 8, .nilf⟩ := tiOk_mk (.nilFunc) ⟨_, _, _, Tryd.underlying45⟩ (by kernel_rfl) rfl rfl rfl (by simp [Value.cells, Value.oneCell'])
theorem ok46 : TiOk Tryd.prog 46 ⟨.int .i64, 1, 8, .int .i64 0⟩ := tiOk_mk (.int .i64 0) Tryd.underlying46 (by kernel_rfl) rfl rfl rfl (by simp [Value.cells, Value.oneCell'])
theorem ok47 : TiOk Tryd.prog 47 ⟨.func, 1, 8, .nilf⟩ := tiOk_mk (.nilFunc) ⟨_, _, _, Tryd.underlying47⟩ (by kernel_rfl) rfl rfl rfl (by simp [Value.cells, Value.oneCell'])
theorem ok48 : TiOk Tryd.prog 48 ⟨.func, 1, 8, .nilf⟩ := tiOk_mk (.nilFunc) ⟨_, _, _, Tryd.underlying48⟩ (by kernel_rfl) rfl rfl rfl (by simp [Value.cells, Value.oneCell'])
theorem ok49 : TiOk Tryd.prog 49 ⟨.slice 55, 1, 24, .nils⟩ := tiOk_mk (.slice none 0 0) Tryd.underlying49 (by kernel_rfl) rfl rfl rfl (by simp [Value.cells, Value.oneCell'])
theorem ok50 : TiOk Tryd.prog 50 ⟨.struct [(0, 49), (1, 3)], 2, 32, .agg [.nils, .int .i64 0]⟩ := tiOk_mk (.agg #[.slice none 0 0, .int .i64 0]) ⟨_, Tryd.underlying50, rfl⟩ (by kernel_rfl) rfl rfl rfl (by simp [Value.cells, Value.oneCell'])
theorem ok51 : TiOk Tryd.prog 51 ⟨.struct [(0, 49), (1, 3)], 2, 32, .agg [.nils, .int .i64 0]⟩ := tiOk_mk (.agg #[.slice none 0 0, .int .i64 0]) ⟨_, Tryd.underlying51, rfl⟩ (by kernel_rfl) rfl rfl rfl (by simp [Value.cells, Value.oneCell'])
theorem ok53 : TiOk Tryd.prog 53 ⟨.func, 1, 8, .nilf⟩ := tiOk_mk (.nilFunc) ⟨_, _, _, Tryd.underlying53⟩ (by kernel_rfl) rfl rfl rfl (by simp [Value.cells, Value.oneCell'])
theorem ok54 : TiOk Tryd.prog 54 ⟨.struct [(0, 31), (1, 4)], 2, 32, .agg [.nils, .bool false]⟩ := tiOk_mk (.agg #[.slice none 0 0, .bool false]) ⟨_, Tryd.underlying54, rfl⟩ (by kernel_rfl) rfl rfl rfl (by simp [Value.cells, Value.oneCell'])
theorem ok55 : TiOk Tryd.prog 55 ⟨.struct [(0, 31), (1, 4)], 2, 32, .agg [.nils, .bool false]⟩ := tiOk_mk (.agg #[.slice none 0 0, .bool false]) ⟨_, Tryd.underlying55, rfl⟩ (by kernel_rfl) rfl rfl rfl (by simp [Value.cells, Value.oneCell'])
theorem ok56 : TiOk Tryd.prog 56 ⟨.func, 1, 8, .nilf⟩ := tiOk_mk (.nilFunc) ⟨_, _, _, Tryd.underlying56⟩ (by kernel_rfl) rfl rfl rfl (by simp [Value.cells, Value.oneCell'])
theorem ok57 : TiOk Tryd.prog 57 ⟨.func, 1, 8, .nilf⟩ := tiOk_mk (.nilFunc) ⟨_, _, _, Tryd.underlying57⟩ (by kernel_rfl) rfl rfl rfl (by simp [Value.cells, Value.oneCell'])
theorem ok58 : TiOk Tryd.prog 58 ⟨.func, 1, 8, .nilf⟩ := tiOk_mk (.nilFunc) ⟨_, _, _, Tryd.underlying58⟩ (by kernel_rfl) rfl rfl rfl (by simp [Value.cells, Value.oneCell'])
theorem ok59 : TiOk Tryd.prog 59 ⟨.func, 1, 8, .nilf⟩ := tiOk_mk (.nilFunc) ⟨_, _, _, Tryd.underlying59⟩ (by kernel_rfl) rfl rfl rfl (by simp [Value.cells, Value.oneCell'])
theorem ok60 : TiOk Tryd.prog 60 ⟨.func, 1, 8, .nilf⟩ := tiOk_mk (.nilFunc) ⟨_, _, _, Tryd.underlying60⟩ (by kernel_rfl) rfl rfl rfl (by simp [Value.cells, Value.oneCell'])
theorem ok61 : TiOk Tryd.prog 61 ⟨.func, 1, 8, .nilf⟩ := tiOk_mk (.nilFunc) ⟨_, _, _, Tryd.underlying61⟩ (by kernel_rfl) rfl rfl rfl (by simp [Value.cells, Value.oneCell'])
theorem ok62 : TiOk Tryd.prog 62 ⟨.ptr 55, 1, 8, .nilp⟩ := tiOk_mk (.pointer none) Tryd.underlying62 (by kernel_rfl) rfl rfl rfl (by simp [Value.cells, Value.oneCell'])
theorem ok63 : TiOk Tryd.prog 63 ⟨.func, 1, 8, .nilf⟩ := tiOk_mk (.nilFunc) ⟨_, _, _, Tryd.underlying63⟩ (by kernel_rfl) rfl rfl rfl (by simp [Value.cells, Value.oneCell'])
theorem ok64 : TiOk Tryd.prog 64 ⟨.ptr 68, 1, 8, .nilp⟩ := tiOk_mk (.pointer none) Tryd.underlying64 (by kernel_rfl) rfl rfl rfl (by simp [Value.cells, Value.oneCell'])
theorem ok65 : TiOk Tryd.prog 65 ⟨.func, 1, 8, .nilf⟩ := tiOk_mk (.nilFunc) ⟨_, _, _, Tryd.underlying65⟩ (by kernel_rfl) rfl rfl rfl (by simp [Value.cells, Value.oneCell'])
theorem ok66 : TiOk Tryd.prog 66 ⟨.ptr 64, 1, 8, .nilp⟩ := tiOk_mk (.pointer none) Tryd.underlying66 (by kernel_rfl) rfl rfl rfl (by simp [Value.cells, Value.oneCell'])
theorem ok67 : TiOk Tryd.prog 67 ⟨.struct [(0, 9), (1, 3), (2, 46), (3, 37)], 4, 48, .agg [.str ⟨#[]⟩, .int .i64 0, .int .i64 0, .nili]⟩ := tiOk_mk (.agg #[.string ⟨#[]⟩, .int .i64 0, .int .i64 0, .nilIface]) ⟨_, Tryd.underlying67, rfl⟩ (by kernel_rfl) rfl rfl rfl (by simp [Value.cells, Value.oneCell'])
theorem ok68 : TiOk Tryd.prog 68 ⟨.struct [(0, 9), (1, 3), (2, 46), (3, 37)], 4, 48, .agg [.str ⟨#[]⟩, .int .i64 0, .int .i64 0, .nili]⟩ := tiOk_mk (.agg #[.string ⟨#[]⟩, .int .i64 0, .int .i64 0, .nilIface]) ⟨_, Tryd.underlying68, rfl⟩ (by kernel_rfl) rfl rfl rfl (by simp [Value.cells, Value.oneCell'])
theorem ok69 : TiOk Tryd.prog 69 ⟨.func, 1, 8, .nilf⟩ := tiOk_mk (.nilFunc) ⟨_, _, _, Tryd.underlying69⟩ (by kernel_rfl) rfl rfl rfl (by simp [Value.cells, Value.oneCell'])
theorem ok70 : TiOk Tryd.prog 70 ⟨.func, 1, 8, .nilf⟩ := tiOk_mk (.nilFunc) ⟨_, _, _, Tryd.underlying70⟩ (by kernel_rfl) rfl rfl rfl (by simp [Value.cells, Value.oneCell'])
theorem ok71 : TiOk Tryd.prog 71 ⟨.func, 1, 8, .nilf⟩ := tiOk_mk (.nilFunc) ⟨_, _, _, Tryd.underlying71⟩ (by kernel_rfl) rfl rfl rfl (by simp [Value.cells, Value.oneCell'])
theorem ok72 : TiOk Tryd.prog 72 ⟨.func, 1, 8, .nilf⟩ := tiOk_mk (.nilFunc) ⟨_, _, _, Tryd.underlying72⟩ (by kernel_rfl) rfl rfl rfl (by simp [Value.cells, Value.oneCell'])
theorem ok73 : TiOk Tryd.prog 73 ⟨.func, 1, 8, .nilf⟩ := tiOk_mk (.nilFunc) ⟨_, _, _, Tryd.underlying73⟩ (by kernel_rfl) rfl rfl rfl (by simp [Value.cells, Value.oneCell'])
theorem ok74 : TiOk Tryd.prog 74 ⟨.func, 1, 8, .nilf⟩ := tiOk_mk (.nilFunc) ⟨_, _, _, Tryd.underlying74⟩ (by kernel_rfl) rfl rfl rfl (by simp [Value.cells, Value.oneCell'])
theorem ok75 : TiOk Tryd.prog 75 ⟨.struct [(0, 46)], 1, 8, .agg [.int .i64 0]⟩ := tiOk_mk (.agg #[.int .i64 0]) ⟨_, Tryd.underlying75, rfl⟩ (by kernel_rfl) rfl rfl rfl (by simp [Value.cells, Value.oneCell'])
theorem ok76 : TiOk Tryd.prog 76 ⟨.struct [(0, 46)], 1, 8, .agg [.int .i64 0]⟩ := tiOk_mk (.agg #[.int .i64 0]) ⟨_, Tryd.underlying76, rfl⟩ (by kernel_rfl) rfl rfl rfl (by simp [Value.cells, Value.oneCell'])
theorem ok77 : TiOk Tryd.prog 77 ⟨.func, 1, 8, .nilf⟩ := tiOk_mk (.nilFunc) ⟨_, _, _, Tryd.underlying77⟩ (by kernel_rfl) rfl rfl rfl (by simp [Value.cells, Value.oneCell'])
theorem ok79 : TiOk Tryd.prog 79 ⟨.int .u64, 1, 8, .int .u64 0⟩ := tiOk_mk (.int .u64 0) Tryd.underlying79 (by kernel_rfl) rfl rfl rfl (by simp [Value.cells, Value.oneCell'])
theorem ok82 : TiOk Tryd.prog 82 ⟨.func, 1, 8, .nilf⟩ := tiOk_mk (.nilFunc) ⟨_, _, _, Tryd.underlying82⟩ (by kernel_rfl) rfl rfl rfl (by simp [Value.cells, Value.oneCell'])
theorem ok83 : TiOk Tryd.prog 83 ⟨.iface, 1, 16, .nili⟩ := tiOk_mk (.nilIface) ⟨_, Tryd.underlying83⟩ (by kernel_rfl) rfl rfl rfl (by simp [Value.cells, Value.oneCell'])
theorem ok84 : TiOk Tryd.prog 84 ⟨.iface, 1, 16, .nili⟩ := tiOk_mk (.nilIface) ⟨_, Tryd.underlying84⟩ (by kernel_rfl) rfl rfl rfl (by simp [Value.cells, Value.oneCell'])
theorem ok85 : TiOk Tryd.prog 85 ⟨.func, 1, 8, .nilf⟩ := tiOk_mk (.nilFunc) ⟨_, _, _, Tryd.underlying85⟩ (by kernel_rfl) rfl rfl rfl (by simp [Value.cells, Value.oneCell'])
theorem ok86 : TiOk Tryd.prog 86 ⟨.int .u8, 1, 1, .int .u8 0⟩ := tiOk_mk (.int .u8 0) Tryd.underlying86 (by kernel_rfl) rfl rfl rfl (by simp [Value.cells, Value.oneCell'])
theorem ok87 : TiOk Tryd.prog 87 ⟨.func, 1, 8, .nilf⟩ := tiOk_mk (.nilFunc) ⟨_, _, _, Tryd.underlying87⟩ (by kernel_rfl) rfl rfl rfl (by simp [Value.cells, Value.oneCell'])
theorem ok88 : TiOk Tryd.prog 88 ⟨.func, 1, 8, .nilf⟩ := tiOk_mk (.nilFunc) ⟨_, _, _, Tryd.underlying88⟩ (by kernel_rfl) rfl rfl rfl (by simp [Value.cells, Value.oneCell'])
theorem ok89 : TiOk Tryd.prog 89 ⟨.func, 1, 8, .nilf⟩ := tiOk_mk (.nilFunc) ⟨_, _, _, Tryd.underlying89⟩ (by kernel_rfl) rfl rfl rfl (by simp [Value.cells, Value.oneCell'])
theorem ok90 : TiOk Tryd.prog 90 ⟨.func, 1, 8, .nilf⟩ := tiOk_mk (.nilFunc) ⟨_, _, _, Tryd.underlying90⟩ (by kernel_rfl) rfl rfl rfl (by simp [Value.cells, Value.oneCell'])
theorem ok91 : TiOk Tryd.prog 91 ⟨.func, 1, 8, .nilf⟩ := tiOk_mk (.nilFunc) ⟨_, _, _, Tryd.underlying91⟩ (by kernel_rfl) rfl rfl rfl (by simp [Value.cells, Value.oneCell'])
theorem ok92 : TiOk Tryd.prog 92 ⟨.func, 1, 8, .nilf⟩ := tiOk_mk (.nilFunc) ⟨_, _, _, Tryd.underlying92⟩ (by kernel_rfl) rfl rfl rfl (by simp [Value.cells, Value.oneCell'])
theorem ok93 : TiOk Tryd.prog 93 ⟨.slice 3, 1, 24, .nils⟩ := tiOk_mk (.slice none 0 0) Tryd.underlying93 (by kernel_rfl) rfl rfl rfl (by simp [Value.cells, Value.oneCell'])
theorem ok94 : TiOk Tryd.prog 94 ⟨.arr 4 5, 4, 4, .agg [.int .u8 0, .int .u8 0, .int .u8 0, .int .u8 0]⟩ := tiOk_mk (.agg #[.int .u8 0, .int .u8 0, .int .u8 0, .int .u8 0]) Tryd.underlying94 (by kernel_rfl) rfl rfl rfl (by simp [Value.cells, Value.oneCell'])
theorem ok95 : TiOk Tryd.prog 95 ⟨.func, 1, 8, .nilf⟩ := tiOk_mk (.nilFunc) ⟨_, _, _, Tryd.underlying95⟩ (by kernel_rfl) rfl rfl rfl (by simp [Value.cells, Value.oneCell'])
theorem ok96 : TiOk Tryd.prog 96 ⟨.int .u32, 1, 4, .int .u32 0⟩ := tiOk_mk (.int .u32 0) Tryd.underlying96 (by kernel_rfl) rfl rfl rfl (by simp [Value.cells, Value.oneCell'])
theorem ok97 : TiOk Tryd.prog 97 ⟨.func, 1, 8, .nilf⟩ := tiOk_mk (.nilFunc) ⟨_, _, _, Tryd.underlying97⟩ (by kernel_rfl) rfl rfl rfl (by simp [Value.cells, Value.oneCell'])
theorem ok98 : TiOk Tryd.prog 98 ⟨.func, 1, 8, .nilf⟩ := tiOk_mk (.nilFunc) ⟨_, _, _, Tryd.underlying98⟩ (by kernel_rfl) rfl rfl rfl (by simp [Value.cells, Value.oneCell'])
theorem ok99 : TiOk Tryd.prog 99 ⟨.ptr 123, 1, 8, .nilp⟩ := tiOk_mk (.pointer none) Tryd.underlying99 (by kernel_rfl) rfl rfl rfl (by simp [Value.cells, Value.oneCell'])
theorem ok100 : TiOk Tryd.prog 100 ⟨.func, 1, 8, .nilf⟩ := tiOk_mk (.nilFunc) ⟨_, _, _, Tryd.underlying100⟩ (by kernel_rfl) rfl rfl rfl (by simp [Value.cells, Value.oneCell'])
theorem ok101 : TiOk Tryd.prog 101 ⟨.func, 1, 8, .nilf⟩ := tiOk_mk (.nilFunc) ⟨_, _, _, Tryd.underlying101⟩ (by kernel_rfl) rfl rfl rfl (by simp [Value.cells, Value.oneCell'])
theorem ok102 : TiOk Tryd.prog 102 ⟨.func, 1, 8, .nilf⟩ := tiOk_mk (.nilFunc) ⟨_, _, _, Tryd.underlying102⟩ (by kernel_rfl) rfl rfl rfl (by simp [Value.cells, Value.oneCell'])
theorem ok103 : TiOk Tryd.prog 103 ⟨.func, 1, 8, .nilf⟩ := tiOk_mk (.nilFunc) ⟨_, _, _, Tryd.underlying103⟩ (by kernel_rfl) rfl rfl rfl (by simp [Value.cells, Value.oneCell'])
theorem ok104 : TiOk Tryd.prog 104 ⟨.func, 1, 8, .nilf⟩ := tiOk_mk (.nilFunc) ⟨_, _, _, Tryd.underlying104⟩ (by kernel_rfl) rfl rfl rfl (by simp [Value.cells, Value.oneCell'])
theorem ok105 : TiOk Tryd.prog 105 ⟨.func, 1, 8, .nilf⟩ := tiOk_mk (.nilFunc) ⟨_, _, _, Tryd.underlying105⟩ (by kernel_rfl) rfl rfl rfl (by simp [Value.cells, Value.oneCell'])
theorem ok106 : TiOk Tryd.prog 106 ⟨.struct [(0, 17)], 1, 8, .agg [.nilp]⟩ := tiOk_mk (.agg #[.pointer none]) ⟨_, Tryd.underlying106, rfl⟩ (by kernel_rfl) rfl rfl rfl (by simp [Value.cells, Value.oneCell'])
theorem ok107 : TiOk Tryd.prog 107 ⟨.struct [(0, 17)], 1, 8, .agg [.nilp]⟩ := tiOk_mk (.agg #[.pointer none]) ⟨_, Tryd.underlying107, rfl⟩ (by kernel_rfl) rfl rfl rfl (by simp [Value.cells, Value.oneCell'])
theorem ok108 : TiOk Tryd.prog 108 ⟨.ptr 147, 1, 8, .nilp⟩ := tiOk_mk (.pointer none) Tryd.underlying108 (by kernel_rfl) rfl rfl rfl (by simp [Value.cells, Value.oneCell'])
theorem ok109 : TiOk Tryd.prog 109 ⟨.func, 1, 8, .nilf⟩ := tiOk_mk (.nilFunc) ⟨_, _, _, Tryd.underlying109⟩ (by kernel_rfl) rfl rfl rfl (by simp [Value.cells, Value.oneCell'])
theorem ok110 : TiOk Tryd.prog 110 ⟨.func, 1, 8, .nilf⟩ := tiOk_mk (.nilFunc) ⟨_, _, _, Tryd.underlying110⟩ (by kernel_rfl) rfl rfl rfl (by simp [Value.cells, Value.oneCell'])
theorem ok111 : TiOk Tryd.prog 111 ⟨.iface, 1, 16, .nili⟩ := tiOk_mk (.nilIface) ⟨_, Tryd.underlying111⟩ (by kernel_rfl) rfl rfl rfl (by simp [Value.cells, Value.oneCell'])
theorem ok113 : TiOk Tryd.prog 113 ⟨.func, 1, 8, .nilf⟩ := tiOk_mk (.nilFunc) ⟨_, _, _, Tryd.underlying113⟩ (by kernel_rfl) rfl rfl rfl (by simp [Value.cells, Value.oneCell'])
theorem ok114 : TiOk Tryd.prog 114 ⟨.iface, 1, 16, .nili⟩ := tiOk_mk (.nilIface) ⟨_, Tryd.underlying114⟩ (by kernel_rfl) rfl rfl rfl (by simp [Value.cells, Value.oneCell'])
theorem ok115 : TiOk Tryd.prog 115 ⟨.func, 1, 8, .nilf⟩ := tiOk_mk (.nilFunc) ⟨_, _, _, Tryd.underlying115⟩ (by kernel_rfl) rfl rfl rfl (by simp [Value.cells, Value.oneCell'])
theorem ok116 : TiOk Tryd.prog 116 ⟨.iface, 1, 16, .nili⟩ := tiOk_mk (.nilIface) ⟨_, Tryd.underlying116⟩ (by kernel_rfl) rfl rfl rfl (by simp [Value.cells, Value.oneCell'])
theorem ok117 : TiOk Tryd.prog 117 ⟨.slice 37, 1, 24, .nils⟩ := tiOk_mk (.slice none 0 0) Tryd.underlying117 (by kernel_rfl) rfl rfl rfl (by simp [Value.cells, Value.oneCell'])
theorem ok118 : TiOk Tryd.prog 118 ⟨.func, 1, 8, .nilf⟩ := tiOk_mk (.nilFunc) ⟨_, _, _, Tryd.underlying118⟩ (by kernel_rfl) rfl rfl rfl (by simp [Value.cells, Value.oneCell'])
theorem ok119 : TiOk Tryd.prog 119 ⟨.func, 1, 8, .nilf⟩ := tiOk_mk (.nilFunc) ⟨_, _, _, Tryd.underlying119⟩ (by kernel_rfl) rfl rfl rfl (by simp [Value.cells, Value.oneCell'])
theorem ok120 : TiOk Tryd.prog 120 ⟨.int .u64, 1, 8, .int .u64 0⟩ := tiOk_mk (.int .u64 0) Tryd.underlying120 (by kernel_rfl) rfl rfl rfl (by simp [Value.cells, Value.oneCell'])
theorem ok121 : TiOk Tryd.prog 121 ⟨.func, 1, 8, .nilf⟩ := tiOk_mk (.nilFunc) ⟨_, _, _, Tryd.underlying121⟩ (by kernel_rfl) rfl rfl rfl (by simp [Value.cells, Value.oneCell'])
theorem ok122 : TiOk Tryd.prog 122 ⟨.struct [(0, 31), (1, 3), (2, 46)], 3, 40, .agg [.nils, .int .i64 0, .int .i64 0]⟩ := tiOk_mk (.agg #[.slice none 0 0, .int .i64 0, .int .i64 0]) ⟨_, Tryd.underlying122, rfl⟩ (by kernel_rfl) rfl rfl rfl (by simp [Value.cells, Value.oneCell'])
theorem ok123 : TiOk Tryd.prog 123 ⟨.struct [(0, 31), (1, 3), (2, 46)], 3, 40, .agg [.nils, .int .i64 0, .int .i64 0]⟩ := tiOk_mk (.agg #[.slice none 0 0, .int .i64 0, .int .i64 0]) ⟨_, Tryd.underlying123, rfl⟩ (by kernel_rfl) rfl rfl rfl (by simp [Value.cells, Value.oneCell'])
theorem ok124 : TiOk Tryd.prog 124 ⟨.func, 1, 8, .nilf⟩ := tiOk_mk (.nilFunc) ⟨_, _, _, Tryd.underlying124⟩ (by kernel_rfl) rfl rfl rfl (by simp [Value.cells, Value.oneCell'])
theorem ok125 : TiOk Tryd.prog 125 ⟨.iface, 1, 16, .nili⟩ := tiOk_mk (.nilIface) ⟨_, Tryd.underlying125⟩ (by kernel_rfl) rfl rfl rfl (by simp [Value.cells, Value.oneCell'])
theorem ok127 : TiOk Tryd.prog 127 ⟨.func, 1, 8, .nilf⟩ := tiOk_mk (.nilFunc) ⟨_, _, _, Tryd.underlying127⟩ (by kernel_rfl) rfl rfl rfl (by simp [Value.cells, Value.oneCell'])
theorem ok128 : TiOk Tryd.prog 128 ⟨.func, 1, 8, .nilf⟩ := tiOk_mk (.nilFunc) ⟨_, _, _, Tryd.underlying128⟩ (by kernel_rfl) rfl rfl rfl (by simp [Value.cells, Value.oneCell'])
theorem ok129 : TiOk Tryd.prog 129 ⟨.func, 1, 8, .nilf⟩ := tiOk_mk (.nilFunc) ⟨_, _, _, Tryd.underlying129⟩ (by kernel_rfl) rfl rfl rfl (by simp [Value.cells, Value.oneCell'])
theorem ok130 : TiOk Tryd.prog 130 ⟨.struct [(0, 17), (1, 17), (2, 17), (3, 9)], 4, 40, .agg [.nilp, .nilp, .nilp, .str ⟨#[]⟩]⟩ := tiOk_mk (.agg #[.pointer none, .pointer none, .pointer none, .string ⟨#[]⟩]) ⟨_, Tryd.underlying130, rfl⟩ (by kernel_rfl) rfl rfl rfl (by simp [Value.cells, Value.oneCell'])
theorem ok131 : TiOk Tryd.prog 131 ⟨.struct [(0, 17), (1, 17), (2, 17), (3, 9)], 4, 40, .agg [.nilp, .nilp, .nilp, .str ⟨#[]⟩]⟩ := tiOk_mk (.agg #[.pointer none, .pointer none, .pointer none, .string ⟨#[]⟩]) ⟨_, Tryd.underlying131, rfl⟩ (by kernel_rfl) rfl rfl rfl (by simp [Value.cells, Value.oneCell'])
theorem ok135 : TiOk Tryd.prog 135 ⟨.func, 1, 8, .nilf⟩ := tiOk_mk (.nilFunc) ⟨_, _, _, Tryd.underlying135⟩ (by kernel_rfl) rfl rfl rfl (by simp [Value.cells, Value.oneCell'])
theorem ok136 : TiOk Tryd.prog 136 ⟨.int .u8, 1, 1, .int .u8 0⟩ := tiOk_mk (.int .u8 0) Tryd.underlying136 (by kernel_rfl) rfl rfl rfl (by simp [Value.cells, Value.oneCell'])
theorem ok137 : TiOk Tryd.prog 137 ⟨.func, 1, 8, .nilf⟩ := tiOk_mk (.nilFunc) ⟨_, _, _, Tryd.underlying137⟩ (by kernel_rfl) rfl rfl rfl (by simp [Value.cells, Value.oneCell'])
theorem ok138 : TiOk Tryd.prog 138 ⟨.ptr 5, 1, 8, .nilp⟩ := tiOk_mk (.pointer none) Tryd.underlying138 (by kernel_rfl) rfl rfl rfl (by simp [Value.cells, Value.oneCell'])
theorem ok139 : TiOk Tryd.prog 139 ⟨.int .i32, 1, 4, .int .i32 0⟩ := tiOk_mk (.int .i32 0) Tryd.underlying139 (by kernel_rfl) rfl rfl rfl (by simp [Value.cells, Value.oneCell'])
theorem ok140 : TiOk Tryd.prog 140 ⟨.int .i32, 1, 4, .int .i32 0⟩ := tiOk_mk (.int .i32 0) Tryd.underlying140 (by kernel_rfl) rfl rfl rfl (by simp [Value.cells, Value.oneCell'])
theorem ok141 : TiOk Tryd.prog 141 ⟨.struct [(0, 12), (1, 12), (2, 96), (3, 136), (4, 5), (5, 5), (6, 86), (7, 137), (8, 138), (9, 139), (10, 140)], 11, 48, .agg [.int .u64 0, .int .u64 0, .int .u32 0, .int .u8 0, .int .u8 0, .int .u8 0, .int .u8 0, .nilf, .nilp, .int .i32 0, .int .i32 0]⟩ := tiOk_mk (.agg #[.int .u64 0, .int .u64 0, .int .u32 0, .int .u8 0, .int .u8 0, .int .u8 0, .int .u8 0, .nilFunc, .pointer none, .int .i32 0, .int .i32 0]) ⟨_, Tryd.underlying141, rfl⟩ (by kernel_rfl) rfl rfl rfl (by simp [Value.cells, Value.oneCell'])
theorem ok142 : TiOk Tryd.prog 142 ⟨.struct [(0, 12), (1, 12), (2, 96), (3, 136), (4, 5), (5, 5), (6, 86), (7, 137), (8, 138), (9, 139), (10, 140)], 11, 48, .agg [.int .u64 0, .int .u64 0, .int .u32 0, .int .u8 0, .int .u8 0, .int .u8 0, .int .u8 0, .nilf, .nilp, .int .i32 0, .int .i32 0]⟩ := tiOk_mk (.agg #[.int .u64 0, .int .u64 0, .int .u32 0, .int .u8 0, .int .u8 0, .int .u8 0, .int .u8 0, .nilFunc, .pointer none, .int .i32 0, .int .i32 0]) ⟨_, Tryd.underlying142, rfl⟩ (by kernel_rfl) rfl rfl rfl (by simp [Value.cells, Value.oneCell'])
theorem ok144 : TiOk Tryd.prog 144 ⟨.func, 1, 8, .nilf⟩ := tiOk_mk (.nilFunc) ⟨_, _, _, Tryd.underlying144⟩ (by kernel_rfl) rfl rfl rfl (by simp [Value.cells, Value.oneCell'])
theorem ok145 : TiOk Tryd.prog 145 ⟨.func, 1, 8, .nilf⟩ := tiOk_mk (.nilFunc) ⟨_, _, _, Tryd.underlying145⟩ (by kernel_rfl) rfl rfl rfl (by simp [Value.cells, Value.oneCell'])
theorem ok146 : TiOk Tryd.prog 146 ⟨.struct [(0, 9), (1, 86)], 2, 24, .agg [.str ⟨#[]⟩, .int .u8 0]⟩ := tiOk_mk (.agg #[.string ⟨#[]⟩, .int .u8 0]) ⟨_, Tryd.underlying146, rfl⟩ (by kernel_rfl) rfl rfl rfl (by simp [Value.cells, Value.oneCell'])
theorem ok147 : TiOk Tryd.prog 147 ⟨.struct [(0, 9), (1, 86)], 2, 24, .agg [.str ⟨#[]⟩, .int .u8 0]⟩ := tiOk_mk (.agg #[.string ⟨#[]⟩, .int .u8 0]) ⟨_, Tryd.underlying147, rfl⟩ (by kernel_rfl) rfl rfl rfl (by simp [Value.cells, Value.oneCell'])
theorem ok148 : TiOk Tryd.prog 148 ⟨.ptr 152, 1, 8, .nilp⟩ := tiOk_mk (.pointer none) Tryd.underlying148 (by kernel_rfl) rfl rfl rfl (by simp [Value.cells, Value.oneCell'])
theorem ok149 : TiOk Tryd.prog 149 ⟨.func, 1, 8, .nilf⟩ := tiOk_mk (.nilFunc) ⟨_, _, _, Tryd.underlying149⟩ (by kernel_rfl) rfl rfl rfl (by simp [Value.cells, Value.oneCell'])
theorem ok150 : TiOk Tryd.prog 150 ⟨.int .u16, 1, 2, .int .u16 0⟩ := tiOk_mk (.int .u16 0) Tryd.underlying150 (by kernel_rfl) rfl rfl rfl (by simp [Value.cells, Value.oneCell'])
theorem ok151 : TiOk Tryd.prog 151 ⟨.struct [(0, 139), (1, 150), (2, 150), (3, 96), (4, 96)], 5, 16, .agg [.int .i32 0, .int .u16 0, .int .u16 0, .int .u32 0, .int .u32 0]⟩ := tiOk_mk (.agg #[.int .i32 0, .int .u16 0, .int .u16 0, .int .u32 0, .int .u32 0]) ⟨_, Tryd.underlying151, rfl⟩ (by kernel_rfl) rfl rfl rfl (by simp [Value.cells, Value.oneCell'])
theorem ok152 : TiOk Tryd.prog 152 ⟨.struct [(0, 139), (1, 150), (2, 150), (3, 96), (4, 96)], 5, 16, .agg [.int .i32 0, .int .u16 0, .int .u16 0, .int .u32 0, .int .u32 0]⟩ := tiOk_mk (.agg #[.int .i32 0, .int .u16 0, .int .u16 0, .int .u32 0, .int .u32 0]) ⟨_, Tryd.underlying152, rfl⟩ (by kernel_rfl) rfl rfl rfl (by simp [Value.cells, Value.oneCell'])
theorem ok153 : TiOk Tryd.prog 153 ⟨.slice 156, 1, 24, .nils⟩ := tiOk_mk (.slice none 0 0) Tryd.underlying153 (by kernel_rfl) rfl rfl rfl (by simp [Value.cells, Value.oneCell'])
theorem ok154 : TiOk Tryd.prog 154 ⟨.int .i32, 1, 4, .int .i32 0⟩ := tiOk_mk (.int .i32 0) Tryd.underlying154 (by kernel_rfl) rfl rfl rfl (by simp [Value.cells, Value.oneCell'])
theorem ok155 : TiOk Tryd.prog 155 ⟨.struct [(0, 139), (1, 140), (2, 154), (3, 154)], 4, 16, .agg [.int .i32 0, .int .i32 0, .int .i32 0, .int .i32 0]⟩ := tiOk_mk (.agg #[.int .i32 0, .int .i32 0, .int .i32 0, .int .i32 0]) ⟨_, Tryd.underlying155, rfl⟩ (by kernel_rfl) rfl rfl rfl (by simp [Value.cells, Value.oneCell'])
theorem ok156 : TiOk Tryd.prog 156 ⟨.struct [(0, 139), (1, 140), (2, 154), (3, 154)], 4, 16, .agg [.int .i32 0, .int .i32 0, .int .i32 0, .int .i32 0]⟩ := tiOk_mk (.agg #[.int .i32 0, .int .i32 0, .int .i32 0, .int .i32 0]) ⟨_, Tryd.underlying156, rfl⟩ (by kernel_rfl) rfl rfl rfl (by simp [Value.cells, Value.oneCell'])
theorem ok157 : TiOk Tryd.prog 157 ⟨.ptr 37, 1, 8, .nilp⟩ := tiOk_mk (.pointer none) Tryd.underlying157 (by kernel_rfl) rfl rfl rfl (by simp [Value.cells, Value.oneCell'])
theorem tk : TyOk Tryd.prog ty := by
  intro t i h
  unfold ty at h
  split at h
  · cases h; exact ok1
  · cases h; exact ok2
  · cases h; exact ok3
  · cases h; exact ok4
  · cases h; exact ok5
  · cases h; exact ok6
  · cases h; exact ok7
  · cases h; exact ok8
  · cases h; exact ok9
  · cases h; exact ok10
  · cases h; exact ok11
  · cases h; exact ok12
  · cases h; exact ok13
  · cases h; exact ok14
  · cases h; exact ok15
  · cases h; exact ok16
  · cases h; exact ok17
  · cases h; exact ok18
  · cases h; exact ok19
  · cases h; exact ok20
  · cases h; exact ok21
  · cases h; exact ok22
  · cases h; exact ok23
  · cases h; exact ok24
  · cases h; exact ok25
  · cases h; exact ok26
  · cases h; exact ok27
  · cases h; exact ok28
  · cases h; exact ok29
  · cases h; exact ok30
  · cases h; exact ok31
  · cases h; exact ok32
  · cases h; exact ok33
  · cases h; exact ok34
  · cases h; exact ok35
  · cases h; exact ok36
  · cases h; exact ok37
  · cases h; exact ok39
  · cases h; exact ok40
  · cases h; exact ok41
  · cases h; exact ok42
  · cases h; exact ok43
  · cases h; exact ok44
  · cases h; exact ok45
  · cases h; exact ok46
  · cases h; exact ok47
  · cases h; exact ok48
  · cases h; exact ok49
  · cases h; exact ok50
  · cases h; exact ok51
  · cases h; exact ok53
  · cases h; exact ok54
  · cases h; exact ok55
  · cases h; exact ok56
  · cases h; exact ok57
  · cases h; exact ok58
  · cases h; exact ok59
  · cases h; exact ok60
  · cases h; exact ok61
  · cases h; exact ok62
  · cases h; exact ok63
  · cases h; exact ok64
  · cases h; exact ok65
  · cases h; exact ok66
  · cases h; exact ok67
  · cases h; exact ok68
  · cases h; exact ok69
  · cases h; exact ok70
  · cases h; exact ok71
  · cases h; exact ok72
  · cases h; exact ok73
  · cases h; exact ok74
  · cases h; exact ok75
  · cases h; exact ok76
  · cases h; exact ok77
  · cases h; exact ok79
  · cases h; exact ok82
  · cases h; exact ok83
  · cases h; exact ok84
  · cases h; exact ok85
  · cases h; exact ok86
  · cases h; exact ok87
  · cases h; exact ok88
  · cases h; exact ok89
  · cases h; exact ok90
  · cases h; exact ok91
  · cases h; exact ok92
  · cases h; exact ok93
  · cases h; exact ok94
  · cases h; exact ok95
  · cases h; exact ok96
  · cases h; exact ok97
  · cases h; exact ok98
  · cases h; exact ok99
  · cases h; exact ok100
  · cases h; exact ok101
  · cases h; exact ok102
  · cases h; exact ok103
  · cases h; exact ok104
  · cases h; exact ok105
  · cases h; exact ok106
  · cases h; exact ok107
  · cases h; exact ok108
  · cases h; exact ok109
  · cases h; exact ok110
  · cases h; exact ok111
  · cases h; exact ok113
  · cases h; exact ok114
  · cases h; exact ok115
  · cases h; exact ok116
  · cases h; exact ok117
  · cases h; exact ok118
  · cases h; exact ok119
  · cases h; exact ok120
  · cases h; exact ok121
  · cases h; exact ok122
  · cases h; exact ok123
  · cases h; exact ok124
  · cases h; exact ok125
  · cases h; exact ok127
  · cases h; exact ok128
  · cases h; exact ok129
  · cases h; exact ok130
  · cases h; exact ok131
  · cases h; exact ok135
  · cases h; exact ok136
  · cases h; exact ok137
  · cases h; exact ok138
  · cases h; exact ok139
  · cases h; exact ok140
  · cases h; exact ok141
  · cases h; exact ok142
  · cases h; exact ok144
  · cases h; exact ok145
  · cases h; exact ok146
  · cases h; exact ok147
  · cases h; exact ok148
  · cases h; exact ok149
  · cases h; exact ok150
  · cases h; exact ok151
  · cases h; exact ok152
  · cases h; exact ok153
  · cases h; exact ok154
  · cases h; exact ok155
  · cases h; exact ok156
  · cases h; exact ok157
  · cases h
theorem mixed : Tryd.prog.follows .mixedOrders = true := by kernel_rfl
end Go.Proofs.YtedcgeghgbgonaaDoor
namespace Go.Proofs.YtedcgeghgbgonaaDoor
open Go Go.Va
set_option linter.unusedSimpArgs false
set_option linter.unusedVariables false
inductive Err where
  | nil
  | fault (op : List (BitVec 8)) (at_ : Int) (code : Int) (under : Err)
  deriving DecidableEq
def Err.isNil : Err → Bool
  | .nil => true
  | _ => false
def eErr : Err → AV
  | .nil => .nili
  | .fault o a c u => .iface 64 (.fptr [eS o, eI a, eI c, eErr u] 0)
theorem eErr_cut (nl nt : Nat → Option Nat) : ∀ e, cutAV nl nt (eErr e) = eErr e
  | .nil => rfl
  | .fault o a c u => by simp only [eErr, cutAV, cutL, eErr_cut nl nt u, eS, eI]
theorem eErr_flat (e : Err) : flatAV (eErr e) = true := by cases e <;> rfl
theorem nsp_err (e : Err) : spcl [eErr e] = false := by cases e <;> rfl
theorem encErr : Enc ty 37 1 eErr := ⟨sz37, by decide, fun x => (by cases x <;> rfl), fun h => (by cases h), fun _ x => (by cases x <;> rfl), fun x => (by cases x <;> rfl), eErr_cut⟩
structure runtime_boundsError where
  x : Int
  y : Int
  signed : Bool
  code : BitVec 8
  deriving DecidableEq
def c_runtime_boundsError (x : runtime_boundsError) : List AV := [eI x.x, eI x.y, eB x.signed, (@eU .u8 8) x.code]
def e_runtime_boundsError (x : runtime_boundsError) : AV := .agg (c_runtime_boundsError x)
def z_runtime_boundsError : runtime_boundsError := ⟨(0 : Int), (0 : Int), false, 0#8⟩
structure runtime_errorAddressString where
  msg : List (BitVec 8)
  addr : BitVec 64
  deriving DecidableEq
def c_runtime_errorAddressString (x : runtime_errorAddressString) : List AV := [eS x.msg, (@eU .u64 64) x.addr]
def e_runtime_errorAddressString (x : runtime_errorAddressString) : AV := .agg (c_runtime_errorAddressString x)
def z_runtime_errorAddressString : runtime_errorAddressString := ⟨([] : List (BitVec 8)), 0#64⟩
structure api_Entry where
  Key : List (BitVec 8)
  Version : Int
  AsOf : Int
  Ends : Int
  Value : List (BitVec 8)
  deriving DecidableEq
def c_api_Entry (x : api_Entry) : List AV := [eS x.Key, eI x.Version, eI x.AsOf, eI x.Ends, (eL 1 (@eU .u8 8)) x.Value]
def e_api_Entry (x : api_Entry) : AV := .agg (c_api_Entry x)
def z_api_Entry : api_Entry := ⟨([] : List (BitVec 8)), (0 : Int), (0 : Int), (0 : Int), ([] : List (BitVec 8))⟩
theorem c_api_Entry_cut (nl nt : Nat → Option Nat) (x : api_Entry) : cutL nl nt (c_api_Entry x) = c_api_Entry x := by simp only [cutL, e_api_Entry, c_api_Entry, cutAV, (enc_s td9 sz9).cut nl nt, (enc_i64 td3 sz3).cut nl nt, (enc_i64 td3 sz3).cut nl nt, (enc_i64 td3 sz3).cut nl nt, (enc_l td31 sz31 (enc_u td5 sz5).cut).cut nl nt]
theorem enc33 : Enc ty 33 5 e_api_Entry := ⟨sz33, by decide, fun _ => rfl, fun _ _ => rfl, fun h => (by cases h), fun _ => rfl, fun nl nt x => by simp only [e_api_Entry, cutAV, c_api_Entry_cut]⟩
structure api_Msg where
  Kind : Int
  From : Int
  To : Int
  Epoch : Int
  Id : Int
  X : api_Entry
  Found : Bool
  deriving DecidableEq
def c_api_Msg (x : api_Msg) : List AV := [eI x.Kind] ++ [eI x.From] ++ [eI x.To] ++ [eI x.Epoch] ++ [eI x.Id] ++ (c_api_Entry x.X) ++ [eB x.Found]
def e_api_Msg (x : api_Msg) : AV := .agg (c_api_Msg x)
def z_api_Msg : api_Msg := ⟨(0 : Int), (0 : Int), (0 : Int), (0 : Int), (0 : Int), z_api_Entry, false⟩
theorem c_api_Msg_cut (nl nt : Nat → Option Nat) (x : api_Msg) : cutL nl nt (c_api_Msg x) = c_api_Msg x := by simp only [cutL, e_api_Msg, c_api_Msg, cutAV, (enc_i64 td3 sz3).cut nl nt, (enc_i64 td3 sz3).cut nl nt, (enc_i64 td3 sz3).cut nl nt, (enc_i64 td3 sz3).cut nl nt, (enc_i64 td3 sz3).cut nl nt, (enc_b td4 sz4).cut nl nt, c_api_Entry_cut nl nt, cutL_append]
theorem enc35 : Enc ty 35 11 e_api_Msg := ⟨sz35, by decide, fun _ => rfl, fun _ _ => rfl, fun h => (by cases h), fun _ => rfl, fun nl nt x => by simp only [e_api_Msg, cutAV, c_api_Msg_cut]⟩
structure L26_Op where
  Kind : Int
  L : List api_Msg
  I : Int
  At : Int
  By : BitVec 8
  deriving DecidableEq
def c_L26_Op (x : L26_Op) : List AV := [eI x.Kind, (eL 11 e_api_Msg) x.L, eI x.I, eI x.At, (@eU .u8 8) x.By]
def e_L26_Op (x : L26_Op) : AV := .agg (c_L26_Op x)
def z_L26_Op : L26_Op := ⟨(0 : Int), ([] : List api_Msg), (0 : Int), (0 : Int), 0#8⟩
theorem c_L26_Op_cut (nl nt : Nat → Option Nat) (x : L26_Op) : cutL nl nt (c_L26_Op x) = c_L26_Op x := by simp only [cutL, e_L26_Op, c_L26_Op, cutAV, (enc_i64 td3 sz3).cut nl nt, (enc_l td27 sz27 enc35.cut).cut nl nt, (enc_i64 td3 sz3).cut nl nt, (enc_i64 td3 sz3).cut nl nt, (enc_u td5 sz5).cut nl nt]
theorem enc29 : Enc ty 29 5 e_L26_Op := ⟨sz29, by decide, fun _ => rfl, fun _ _ => rfl, fun h => (by cases h), fun _ => rfl, fun nl nt x => by simp only [e_L26_Op, cutAV, c_L26_Op_cut]⟩
structure lines_parcel where
  b : List (BitVec 8)
  spoilt : Bool
  deriving DecidableEq
def c_lines_parcel (x : lines_parcel) : List AV := [(eL 1 (@eU .u8 8)) x.b, eB x.spoilt]
def e_lines_parcel (x : lines_parcel) : AV := .agg (c_lines_parcel x)
def z_lines_parcel : lines_parcel := ⟨([] : List (BitVec 8)), false⟩
theorem c_lines_parcel_cut (nl nt : Nat → Option Nat) (x : lines_parcel) : cutL nl nt (c_lines_parcel x) = c_lines_parcel x := by simp only [cutL, e_lines_parcel, c_lines_parcel, cutAV, (enc_l td31 sz31 (enc_u td5 sz5).cut).cut nl nt, (enc_b td4 sz4).cut nl nt]
theorem enc55 : Enc ty 55 2 e_lines_parcel := ⟨sz55, by decide, fun _ => rfl, fun _ _ => rfl, fun h => (by cases h), fun _ => rfl, fun nl nt x => by simp only [e_lines_parcel, cutAV, c_lines_parcel_cut]⟩
structure lines_Lines where
  l : List lines_parcel
  lost : Int
  deriving DecidableEq
def c_lines_Lines (x : lines_Lines) : List AV := [(eL 2 e_lines_parcel) x.l, eI x.lost]
def e_lines_Lines (x : lines_Lines) : AV := .agg (c_lines_Lines x)
def z_lines_Lines : lines_Lines := ⟨([] : List lines_parcel), (0 : Int)⟩
structure trouble_fault where
  op : List (BitVec 8)
  at_ : Int
  code : Int
  under : Err
  deriving DecidableEq
def c_trouble_fault (x : trouble_fault) : List AV := [eS x.op, eI x.at_, eI x.code, eErr x.under]
def e_trouble_fault (x : trouble_fault) : AV := .agg (c_trouble_fault x)
def z_trouble_fault : trouble_fault := ⟨([] : List (BitVec 8)), (0 : Int), (0 : Int), Err.nil⟩
theorem c_trouble_fault_cut (nl nt : Nat → Option Nat) (x : trouble_fault) : cutL nl nt (c_trouble_fault x) = c_trouble_fault x := by simp only [cutL, e_trouble_fault, c_trouble_fault, cutAV, (enc_s td9 sz9).cut nl nt, (enc_i64 td3 sz3).cut nl nt, (enc_i64 td46 sz46).cut nl nt, encErr.cut nl nt]
theorem enc68 : Enc ty 68 4 e_trouble_fault := ⟨sz68, by decide, fun _ => rfl, fun _ _ => rfl, fun h => (by cases h), fun x => (by simp only [e_trouble_fault, c_trouble_fault, AV.cells, List.all_cons, List.all_nil, eErr_flat]; rfl), fun nl nt x => by simp only [e_trouble_fault, cutAV, c_trouble_fault_cut]⟩
structure trouble_mark where
  code : Int
  deriving DecidableEq
def c_trouble_mark (x : trouble_mark) : List AV := [eI x.code]
def e_trouble_mark (x : trouble_mark) : AV := .agg (c_trouble_mark x)
def z_trouble_mark : trouble_mark := ⟨(0 : Int)⟩
structure octets_Reader where
  b : List (BitVec 8)
  at_ : Int
  code : Int
  deriving DecidableEq
def c_octets_Reader (x : octets_Reader) : List AV := [(eL 1 (@eU .u8 8)) x.b, eI x.at_, eI x.code]
def e_octets_Reader (x : octets_Reader) : AV := .agg (c_octets_Reader x)
def z_octets_Reader : octets_Reader := ⟨([] : List (BitVec 8)), (0 : Int), (0 : Int)⟩
theorem c_octets_Reader_cut (nl nt : Nat → Option Nat) (x : octets_Reader) : cutL nl nt (c_octets_Reader x) = c_octets_Reader x := by simp only [cutL, e_octets_Reader, c_octets_Reader, cutAV, (enc_l td31 sz31 (enc_u td5 sz5).cut).cut nl nt, (enc_i64 td3 sz3).cut nl nt, (enc_i64 td46 sz46).cut nl nt]
theorem enc123 : Enc ty 123 3 e_octets_Reader := ⟨sz123, by decide, fun _ => rfl, fun _ _ => rfl, fun h => (by cases h), fun _ => rfl, fun nl nt x => by simp only [e_octets_Reader, cutAV, c_octets_Reader_cut]⟩
structure reflectlite_ValueError where
  Method : List (BitVec 8)
  Kind : BitVec 8
  deriving DecidableEq
def c_reflectlite_ValueError (x : reflectlite_ValueError) : List AV := [eS x.Method, (@eU .u8 8) x.Kind]
def e_reflectlite_ValueError (x : reflectlite_ValueError) : AV := .agg (c_reflectlite_ValueError x)
def z_reflectlite_ValueError : reflectlite_ValueError := ⟨([] : List (BitVec 8)), 0#8⟩
structure abi_Method where
  Name : Int
  Mtyp : Int
  Ifn : Int
  Tfn : Int
  deriving DecidableEq
def c_abi_Method (x : abi_Method) : List AV := [(eK .i32) x.Name, (eK .i32) x.Mtyp, (eK .i32) x.Ifn, (eK .i32) x.Tfn]
def e_abi_Method (x : abi_Method) : AV := .agg (c_abi_Method x)
def z_abi_Method : abi_Method := ⟨(0 : Int), (0 : Int), (0 : Int), (0 : Int)⟩
end Go.Proofs.YtedcgeghgbgonaaDoor
namespace Go.Proofs.YtedcgeghgbgonaaDoor
open Go Go.Va
set_option linter.unusedVariables false
set_option linter.unusedSimpArgs false
set_option maxRecDepth 20000
noncomputable def slices_Delete_lines_parcel_lines_parcel (x0 : List lines_parcel) (x1 x2 : Int) : Option (List lines_parcel) := delO x0 x1 x2
noncomputable def trouble_New (x0 : List (BitVec 8)) (x1 : Int) (x2 : Int) : Option (Err) :=
 lt (x2 == (0 : Int)) fun v2 =>
 if v2 = true then
  some Err.nil
 else
  lt ((⟨x0, x1, x2, Err.nil⟩ : trouble_fault)) fun v5 =>
  some (Err.fault v5.op v5.at_ v5.code v5.under)
noncomputable def lines_Lines_at (x0 : lines_Lines) (x1 : List (BitVec 8)) (x2 : Int) : Option (Err) :=
 (
  lt (decide (x2 < (0 : Int))) fun v6 =>
  if v6 = true then
   some true
  else
   lt ((((x0.l).length : Nat) : Int)) fun v9 =>
   lt (decide (x2 ≥ v9)) fun v11 =>
   some v11
 : Option (Bool)).bind fun s1 =>
  if s1 = true then
   (trouble_New x1 x2 (9 : Int)).bind fun v15 =>
   some v15
  else
   some Err.nil
noncomputable def lines_Lines_Drop (x0 : lines_Lines) (x1 : Int) : Option (Err × lines_Lines) :=
 (lines_Lines_at x0 ([100#8, 114#8, 111#8, 112#8] : List (BitVec 8)) x1).bind fun v4 =>
 lt (!Err.isNil v4) fun v6 =>
 if v6 = true then
  some (v4, x0)
 else
  lt (w64 (x1 + (1 : Int))) fun v9 =>
  (slices_Delete_lines_parcel_lines_parcel x0.l x1 v9).bind fun v11 =>
  lt (w64 ((({ x0 with l := v11 } : lines_Lines).lost) + (1 : Int))) fun v18 =>
  some (Err.nil, ({ ({ ({ x0 with l := v11 } : lines_Lines) with lost := v18 } : lines_Lines) with l := v11 } : lines_Lines))
noncomputable def lines_Lines_Twice (x0 : lines_Lines) (x1 : Int) : Option (Err × lines_Lines) :=
 (lines_Lines_at x0 ([116#8, 119#8, 105#8, 99#8, 101#8] : List (BitVec 8)) x1).bind fun v4 =>
 lt (!Err.isNil v4) fun v6 =>
 if v6 = true then
  some (v4, x0)
 else
  lt ((((x0.l).length : Nat) : Int)) fun v9 =>
  lt (decide (v9 ≥ (200 : Int))) fun v11 =>
  if v11 = true then
   (trouble_New ([116#8, 119#8, 105#8, 99#8, 101#8] : List (BitVec 8)) x1 (4 : Int)).bind fun v14 =>
   some (v14, x0)
  else
   (chk (x0.l).length x1).bind fun v16 =>
   (ixA (x0.l).length x0.l x1).bind fun v18 =>
   lt (((v18.b).length : Int)) fun v20 =>
   (mkS 1 v20 0#8).bind fun v22 =>
   (chk (x0.l).length x1).bind fun v27 =>
   (ixA (x0.l).length x0.l x1).bind fun v29 =>
   (cpL v22 v29.b).bind fun c31 =>
   (chk (x0.l).length x1).bind fun v35 =>
   (ixA (x0.l).length x0.l x1).bind fun v37 =>
   lt ((⟨c31, v37.spoilt⟩ : lines_parcel)) fun v39 =>
   (app 32 x0.l ([v39] : List lines_parcel)).bind fun v41 =>
   some (Err.nil, ({ ({ x0 with l := v41 } : lines_Lines) with l := v41 } : lines_Lines))
noncomputable def slices_Clone_byte_byteV (x0 : List (BitVec 8)) : Option ((List (BitVec 8))) :=
 (app 1 ([] : List (BitVec 8)) x0).bind fun v8 =>
 some v8
noncomputable def lines_Lines_Spoil (x0 : lines_Lines) (x1 : Int) (x2 : Int) (x3 : BitVec 8) : Option (Err × lines_Lines) :=
 (lines_Lines_at x0 ([115#8, 112#8, 111#8, 105#8, 108#8] : List (BitVec 8)) x1).bind fun v4 =>
 lt (!Err.isNil v4) fun v6 =>
 if v6 = true then
  some (v4, x0)
 else
  (chk (x0.l).length x1).bind fun v9 =>
  (ixA (x0.l).length x0.l x1).bind fun v11 =>
  if v11.spoilt = true then
   (trouble_New ([115#8, 112#8, 111#8, 105#8, 108#8] : List (BitVec 8)) x1 (13 : Int)).bind fun v14 =>
   some (v14, x0)
  else
   (
    lt (decide (x2 < (0 : Int))) fun v20 =>
    if v20 = true then
     some true
    else
     (ixA (x0.l).length x0.l x1).bind fun v23 =>
     lt (((v23.b).length : Int)) fun v25 =>
     lt (decide (x2 ≥ v25)) fun v27 =>
     if v27 = true then
      some true
     else
      lt (x3 == 0#8) fun v30 =>
      some v30
   : Option (Bool)).bind fun s15 =>
    if s15 = true then
     (trouble_New ([115#8, 112#8, 111#8, 105#8, 108#8] : List (BitVec 8)) x2 (2 : Int)).bind fun v34 =>
     some (v34, x0)
    else
     (ixA (x0.l).length x0.l x1).bind fun v36 =>
     (slices_Clone_byte_byteV v36.b).bind fun v38 =>
     (ixA (x0.l).length x0.l x1).bind fun v43 =>
     (chk (v38).length x2).bind fun v46 =>
     (ixA (v38).length v38 x2).bind fun v48 =>
     lt (v48 ^^^ x3) fun v50 =>
     (chk (v38).length x2).bind fun v52 =>
     (updA (v38).length v38 x2 (fun _ => v50)).bind fun c54 =>
     some (Err.nil, ({ x0 with l := (x0.l.set (x1 : Int).toNat ({ ({ v43 with spoilt := true } : lines_parcel) with b := c54 } : lines_parcel)) } : lines_Lines))
noncomputable def lines_Lines_Lost (x0 : lines_Lines) : Option (Int) :=
 some x0.lost
noncomputable def lines_Lines_Len (x0 : lines_Lines) : Option (Int) :=
 lt ((((x0.l).length : Nat) : Int)) fun v2 =>
 some v2
noncomputable def L06_Light_b0 (x0 : List api_Entry) (c6 : Int) (c7 : Int) : Option ((Int × Int) ⊕ (Unit ⊕ (Int))) :=
 lt (((x0).length : Int)) fun v18 =>
 lt (decide (c7 < v18)) fun v20 =>
 if v20 = true then
  (
   (ix x0 c7).bind fun v27 =>
   lt (((v27.Key).length : Int)) fun v29 =>
   lt (decide (v29 > (200 : Int))) fun v31 =>
   if v31 = true then
    some true
   else
    (ix x0 c7).bind fun v34 =>
    lt (((v34.Value).length : Int)) fun v36 =>
    lt (decide (v36 > (5000 : Int))) fun v38 =>
    some v38
  : Option (Bool)).bind fun s22 =>
   if s22 = true then
    some (.inr (.inr (1 : Int)))
   else
    (ix x0 c7).bind fun v43 =>
    lt (((v43.Value).length : Int)) fun v45 =>
    lt (w64 (c6 + v45)) fun v47 =>
    lt (decide (v47 > (12000 : Int))) fun v49 =>
    if v49 = true then
     some (.inr (.inr (1 : Int)))
    else
     lt (w64 (c7 + (1 : Int))) fun v53 =>
     some (.inl (v47, v53))
 else
  some (.inr (.inl ()))
noncomputable def L06_Light_l0 (x0 : List api_Entry) (s : Int × Int) : Option (Unit ⊕ (Int)) := loopO (fun s => L06_Light_b0 x0 s.1 s.2) s
noncomputable def L06_Light (x0 : List api_Entry) : Option (Int) :=
 lt (((x0).length : Int)) fun v2 =>
 lt (decide (v2 > (40 : Int))) fun v4 =>
 if v4 = true then
  some (1 : Int)
 else
  (L06_Light_l0 x0 ((0 : Int), (0 : Int))).bind fun o8 =>
   Sum.elim (fun s15 : Unit =>
    some (0 : Int)
    ) (fun y => some y) o8
noncomputable def L26_light_b1 (x0 : List L26_Op) (c7 : Int) (v27 : Int) (c32 : List api_Entry) (c33 : Int) : Option (((List api_Entry) × Int) ⊕ ((List api_Entry))) :=
 (
  (ix x0 c7).bind fun v49 =>
  lt (((v49.L).length : Int)) fun v51 =>
  lt (decide (c33 < v51)) fun v53 =>
  if v53 = true then
   lt (decide (c33 < (40 : Int))) fun v56 =>
   some v56
  else
   some false
 : Option (Bool)).bind fun s44 =>
  if s44 = true then
   (ix x0 c7).bind fun v60 =>
   (ix v60.L c33).bind fun v62 =>
   lt (([v62.X] : List api_Entry)) fun v64 =>
   (app 64 c32 v64).bind fun v66 =>
   lt (w64 (c33 + (1 : Int))) fun v70 =>
   some (.inl (v66, v70))
  else
   some (.inr c32)
noncomputable def L26_light_l1 (x0 : List L26_Op) (c7 : Int) (v27 : Int) (s : (List api_Entry) × Int) : Option ((List api_Entry)) := loopO (fun s => L26_light_b1 x0 c7 v27 s.1 s.2) s
noncomputable def L26_light_b0 (x0 : List L26_Op) (c6 : Int) (c7 : Int) : Option ((Int × Int) ⊕ (Unit ⊕ (Bool))) :=
 lt (((x0).length : Int)) fun v18 =>
 lt (decide (c7 < v18)) fun v20 =>
 if v20 = true then
  (ix x0 c7).bind fun v23 =>
  lt (((v23.L).length : Int)) fun v25 =>
  lt (w64 (c6 + v25)) fun v27 =>
  lt (decide (v27 > (300 : Int))) fun v29 =>
  if v29 = true then
   some (.inr (.inr false))
  else
   (L26_light_l1 x0 c7 v27 ([], (0 : Int))).bind fun s42 =>
    (
     (ix x0 c7).bind fun v77 =>
     lt (((v77.L).length : Int)) fun v79 =>
     lt (decide (v79 > (40 : Int))) fun v81 =>
     if v81 = true then
      some true
     else
      (L06_Light s42).bind fun v84 =>
      lt (decide (v84 > (0 : Int))) fun v86 =>
      some v86
    : Option (Bool)).bind fun s72 =>
     if s72 = true then
      some (.inr (.inr false))
     else
      lt (w64 (c7 + (1 : Int))) fun v91 =>
      some (.inl (v27, v91))
 else
  some (.inr (.inl ()))
noncomputable def L26_light_l0 (x0 : List L26_Op) (s : Int × Int) : Option (Unit ⊕ (Bool)) := loopO (fun s => L26_light_b0 x0 s.1 s.2) s
noncomputable def L26_light (x0 : List L26_Op) : Option (Bool) :=
 lt (((x0).length : Int)) fun v2 =>
 lt (decide (v2 > (40 : Int))) fun v4 =>
 if v4 = true then
  some false
 else
  (L26_light_l0 x0 ((0 : Int), (0 : Int))).bind fun o8 =>
   Sum.elim (fun s15 : Unit =>
    some true
    ) (fun y => some y) o8
end Go.Proofs.YtedcgeghgbgonaaDoor
namespace Go.Va
open Go
set_option linter.unusedVariables false
set_option linter.unusedSimpArgs false

theorem loopO_up {S X : Type} {body : S → Option (S ⊕ X)} (g : Nat → S) (n : Nat) {x : X} (h : ∀ i, i < n → body (g i) = some (.inl (g (i + 1)))) (hx : body (g n) = some (.inr x)) : loopO body (g 0) = some x := by
  have key : ∀ k, k ≤ n → loopO body (g (n - k)) = some x := by
    intro k
    induction k with
    | zero => intro _; exact loopO_out hx
    | succ k ih =>
      intro hk
      rw [loopO_in (h (n - (k + 1)) (by omega)), show n - (k + 1) + 1 = n - k by omega]
      exact ih (by omega)
  have := key n (Nat.le_refl _)
  rwa [Nat.sub_self] at this
def nx {S X : Type} (o : Option X) (s : S) : S ⊕ X := match o with | none => .inl s | some y => .inr y
theorem loopO_find {S X : Type} {body : S → Option (S ⊕ X)} (g : Nat → S) (n : Nat) (f : Nat → Option X) {x : X} (h : ∀ i, i < n → body (g i) = some (nx (f i) (g (i + 1)))) (hx : body (g n) = some (.inr x)) : loopO body (g 0) = some (((List.range n).findSome? f).getD x) := by
  have key : ∀ k, k ≤ n → loopO body (g (n - k)) = some (((List.range' (n - k) k).findSome? f).getD x) := by
    intro k
    induction k with
    | zero => intro _; exact loopO_out hx
    | succ k ih =>
      intro hk
      rw [List.range'_succ, List.findSome?_cons]
      have h1 := h (n - (k + 1)) (by omega)
      cases hf : f (n - (k + 1)) with
      | none =>
        rw [hf] at h1
        rw [loopO_in (s' := g (n - (k + 1) + 1)) h1, show n - (k + 1) + 1 = n - k by omega]
        exact ih (by omega)
      | some y => rw [hf] at h1; exact loopO_out h1
  have := key n (Nat.le_refl _)
  rwa [Nat.sub_self, ← List.range_eq_range'] at this
theorem loopO_inv {S X : Type} {body : S → Option (S ⊕ X)} (I : S → Prop) (m : S → Nat) (Q : X → Prop) (h : ∀ s, I s → (∃ s', body s = some (.inl s') ∧ I s' ∧ m s' < m s) ∨ ∃ x, body s = some (.inr x) ∧ Q x) {s : S} (h0 : I s) : ∃ x, loopO body s = some x ∧ Q x := by
  generalize hk : m s = k
  induction k using Nat.strongRecOn generalizing s with
  | _ k ih =>
    rcases h s h0 with ⟨s', h1, h2, h3⟩ | ⟨x, h1, h2⟩
    · obtain ⟨x, k1, k2⟩ := ih (m s') (hk ▸ h3) h2 rfl
      exact ⟨x, by rw [loopO_in h1]; exact k1, k2⟩
    · exact ⟨x, loopO_out h1, h2⟩
theorem ix_nat {α : Type} {l : List α} {i : Nat} (h : i < l.length) : ix l (i : Int) = some l[i] := by
  unfold ix
  rw [if_pos (by omega)]
  simp [h]
theorem ixA_nat {α : Type} {l : List α} {n i : Nat} (hn : i < n) (h : i < l.length) : ixA n l (i : Int) = some l[i] := by
  unfold ixA
  rw [if_pos ⟨by omega, by omega⟩]
  simp [h]
theorem w64_nat {i : Nat} (h : i < 9223372036854775807) : w64 ((i : Int) + 1) = ((i + 1 : Nat) : Int) := by
  rw [w64_eq (by omega) (by omega)]; omega
theorem whole_eq {α : Type} {n : Nat} {l : List α} (h : l.length = n) : whole n l = some l := by simp [whole, h]
theorem stW_eq {α : Type} {n : Nat} {l y : List α} (h : l.length = n) (h2 : y.length = n) : stW n l y = some y := by simp [stW, whole, h, h2]
theorem app_eq {α : Type} {b : Nat} {l m : List α} (h : (l.length + m.length) * b ≤ 140737488355328) : app b l m = some (l ++ m) := by simp [app, h]
theorem cutTo_eq {α : Type} {l : List α} {n : Nat} (h : n ≤ l.length) : cutTo l (n : Int) = some (l.take n) := by
  unfold cutTo
  rw [if_pos ⟨by omega, by omega⟩]; simp
theorem cutFrom_eq {α : Type} {l : List α} {n : Nat} (h : n ≤ l.length) : cutFrom l (n : Int) = some (l.drop n) := by
  unfold cutFrom
  rw [if_pos ⟨by omega, by omega⟩]; simp
theorem cutO_eq {α : Type} {l : List α} {n m : Nat} (h : n ≤ m) (h2 : m ≤ l.length) : cutO l (n : Int) (m : Int) = some ((l.take m).drop n) := by
  unfold cutO
  rw [if_pos ⟨by omega, by omega, by omega⟩]; simp
theorem sc_eq {y : Int} (h : 0 ≤ y) : sc y = some y.toNat := by
  unfold sc; rw [if_neg (by omega)]
theorem eqA_eq {α : Type} [DecidableEq α] {n : Nat} {x y : List α} (h : x.length = n) (h2 : y.length = n) : eqA n x y = some (x == y) := by simp [eqA, h, h2]
end Go.Va
namespace Go.Proofs.YtedcgeghgbgonaaDoor
open Go Go.Va
set_option linter.unusedVariables false
set_option linter.unusedSimpArgs false
set_option maxRecDepth 20000
def codeOf : Err → Int
 | .nil => 0
 | .fault o a c u => if c = 0 then codeOf u else c
def trouble_Of_b0 : Err → Option (Err ⊕ (Unit ⊕ Int))
 | .nil => some (.inr (.inl ()))
 | .fault o a c u => if (c != 0) = true then some (.inr (.inr c)) else some (.inl u)
def trouble_Of (x : Err) : Option Int := some (codeOf x)
theorem trouble_Of_l0 : ∀ x : Err, loopO trouble_Of_b0 x = some (if codeOf x = 0 then .inl () else .inr (codeOf x))
 | .nil => loopO_out rfl
 | .fault o a c u => by
  by_cases hc : c = 0
  · rw [loopO_in (s' := u) (by simp [trouble_Of_b0, hc]), trouble_Of_l0 u]; simp [codeOf, hc]
  · rw [loopO_out (x := .inr c) (by simp [trouble_Of_b0, hc])]; simp [codeOf, hc]
noncomputable def trouble_Wrap (x0 : List (BitVec 8)) (x1 : Int) (x2 : Err) : Option (Err) :=
 lt (Err.isNil x2) fun v2 =>
 if v2 = true then
  some Err.nil
 else
  lt ((⟨x0, x1, (0 : Int), x2⟩ : trouble_fault)) fun v5 =>
  some (Err.fault v5.op v5.at_ v5.code v5.under)
noncomputable def wire_parts (x0 : Int) : Option ((List (BitVec 8))) :=
 lt (x0 == (2 : Int)) fun v2 =>
 if v2 = true then
  some ([65#8, 70#8] : List (BitVec 8))
 else
  lt (x0 == (3 : Int)) fun v5 =>
  (
   if v5 = true then
    some v5
   else
    lt (x0 == (4 : Int)) fun v12 =>
    some v12
  : Option (Bool)).bind fun s6 =>
   if s6 = true then
    some ([75#8, 65#8] : List (BitVec 8))
   else
    lt (x0 == (5 : Int)) fun v16 =>
    if v16 = true then
     some ([73#8, 75#8] : List (BitVec 8))
    else
     lt (x0 == (6 : Int)) fun v19 =>
     if v19 = true then
      some ([73#8, 75#8, 65#8, 70#8, 86#8] : List (BitVec 8))
     else
      some ([] : List (BitVec 8))
noncomputable def wire_down (x0 : Int) : Option (Bool) :=
 lt (x0 == (2 : Int)) fun v2 =>
 if v2 = true then
  some true
 else
  lt (x0 == (3 : Int)) fun v5 =>
  if v5 = true then
   some true
  else
   lt (x0 == (6 : Int)) fun v8 =>
   some v8
noncomputable def octets_Key (x0 : List (BitVec 8)) : Option (Int) :=
 lt (((x0).length : Int)) fun v2 =>
 lt (v2 == (0 : Int)) fun v4 =>
 if v4 = true then
  some (1 : Int)
 else
  lt (decide (v2 > (40 : Int))) fun v7 =>
  if v7 = true then
   some (3 : Int)
  else
   some (0 : Int)
noncomputable def item_Check_1_c (x0 : List (BitVec 8)) (x1 : Int) (x2 : Int) (x3 : Err) : Option (Err) :=
 (
  lt (Err.isNil x3) fun v6 =>
  if v6 = true then
   lt (decide (x1 < x2)) fun v9 =>
   if v9 = true then
    some true
   else
    lt (decide (x1 > (1099511627776 : Int))) fun v12 =>
    some v12
  else
   some false
 : Option (Bool)).bind fun s1 =>
  if s1 = true then
   (trouble_New x0 x1 (2 : Int)).bind fun v16 =>
   lt ((v16 : Err)) fun c18 =>
   some c18
  else
   some x3
noncomputable def item_Check (x0 : api_Entry) : Option (Err) :=
 (octets_Key x0.Key).bind fun v2 =>
 lt (v2 != (0 : Int)) fun v4 =>
 if v4 = true then
  lt (((x0.Key).length : Int)) fun v7 =>
  (trouble_New ([107#8, 101#8, 121#8] : List (BitVec 8)) v7 v2).bind fun v9 =>
  some v9
 else
  (item_Check_1_c ([118#8, 101#8, 114#8, 115#8, 105#8, 111#8, 110#8] : List (BitVec 8)) x0.Version (1 : Int) Err.nil).bind fun v13 =>
  (item_Check_1_c ([97#8, 115#8, 111#8, 102#8] : List (BitVec 8)) x0.AsOf x0.Version v13).bind fun v15 =>
  (item_Check_1_c ([101#8, 110#8, 100#8, 115#8] : List (BitVec 8)) x0.Ends (0 : Int) v15).bind fun v17 =>
  (
   lt (Err.isNil v17) fun v23 =>
   if v23 = true then
    lt (((x0.Value).length : Int)) fun v26 =>
    lt (decide (v26 > (4096 : Int))) fun v28 =>
    some v28
   else
    some false
  : Option (Bool)).bind fun s18 =>
   if s18 = true then
    lt (((x0.Value).length : Int)) fun v32 =>
    (trouble_New ([118#8, 97#8, 108#8, 117#8, 101#8] : List (BitVec 8)) v32 (3 : Int)).bind fun v34 =>
    lt ((v34 : Err)) fun c36 =>
    some c36
   else
    some v17
noncomputable def item_Same (x0 : api_Entry) (x1 : api_Entry) : Option (Bool) :=
 lt (x0.Key == x1.Key) fun v2 =>
 if v2 = true then
  lt (x0.Version == x1.Version) fun v5 =>
  if v5 = true then
   lt (x0.AsOf == x1.AsOf) fun v8 =>
   if v8 = true then
    lt (x0.Ends == x1.Ends) fun v11 =>
    if v11 = true then
     lt (x0.Value == x1.Value) fun v14 =>
     some v14
    else
     some false
   else
    some false
  else
   some false
 else
  some false
noncomputable def wire_Check_b0 (x0 : api_Msg) (c72 : List (BitVec 8) × Nat) (c73 : api_Msg) : Option (((List (BitVec 8) × Nat) × api_Msg) ⊕ (((List (BitVec 8) × Nat) × api_Msg) ⊕ (Err))) :=
 (nxS c72).bind fun v84 =>
 Option.elim v84 (
  some (.inr (.inl (c72, c73)))
 ) (fun c86 =>
  lt (c86 == (73 : Int)) fun v88 =>
  if v88 = true then
   (
    lt (decide (x0.Id < (1 : Int))) fun v95 =>
    if v95 = true then
     some true
    else
     lt (decide (x0.Id > (1099511627776 : Int))) fun v98 =>
     some v98
   : Option (Bool)).bind fun s90 =>
    if s90 = true then
     (trouble_New ([108#8, 101#8, 97#8, 115#8, 101#8] : List (BitVec 8)) x0.Id (2 : Int)).bind fun v102 =>
     some (.inr (.inr v102))
    else
     lt (({ c73 with Id := (0 : Int) } : api_Msg)) fun c105 =>
     some (.inl ((c72.1, c72.2 + 1), c105))
  else
   lt (c86 == (75 : Int)) fun v108 =>
   if v108 = true then
    (octets_Key x0.X.Key).bind fun v111 =>
    lt (v111 != (0 : Int)) fun v113 =>
    if v113 = true then
     lt (((x0.X.Key).length : Int)) fun v116 =>
     (trouble_New ([107#8, 101#8, 121#8] : List (BitVec 8)) v116 v111).bind fun v118 =>
     some (.inr (.inr v118))
    else
     lt (({ c73 with X := { c73.X with Key := ([] : List (BitVec 8)) } } : api_Msg)) fun c121 =>
     some (.inl ((c72.1, c72.2 + 1), c121))
   else
    lt (c86 == (65 : Int)) fun v124 =>
    if v124 = true then
     (
      lt (decide (x0.X.AsOf < (0 : Int))) fun v131 =>
      if v131 = true then
       some true
      else
       lt (decide (x0.X.AsOf > (1099511627776 : Int))) fun v134 =>
       some v134
     : Option (Bool)).bind fun s126 =>
      if s126 = true then
       (trouble_New ([97#8, 115#8, 111#8, 102#8] : List (BitVec 8)) x0.X.AsOf (2 : Int)).bind fun v138 =>
       some (.inr (.inr v138))
      else
       lt (({ c73 with X := { c73.X with AsOf := (0 : Int) } } : api_Msg)) fun c141 =>
       some (.inl ((c72.1, c72.2 + 1), c141))
    else
     lt (c86 == (70 : Int)) fun v144 =>
     if v144 = true then
      lt (({ c73 with Found := false } : api_Msg)) fun c147 =>
      some (.inl ((c72.1, c72.2 + 1), c147))
     else
      lt (c86 == (86 : Int)) fun v150 =>
      if v150 = true then
       lt (!x0.Found) fun v153 =>
       if v153 = true then
        some (.inl ((c72.1, c72.2 + 1), c73))
       else
        (item_Check x0.X).bind fun v156 =>
        lt (!Err.isNil v156) fun v158 =>
        if v158 = true then
         (trouble_Wrap ([118#8, 97#8, 108#8, 117#8, 101#8] : List (BitVec 8)) x0.Id v156).bind fun v161 =>
         some (.inr (.inr v161))
        else
         lt (({ c73 with X := (⟨([] : List (BitVec 8)), (0 : Int), (0 : Int), (0 : Int), ([] : List (BitVec 8))⟩ : api_Entry) } : api_Msg)) fun c164 =>
         some (.inl ((c72.1, c72.2 + 1), c164))
      else
       some (.inl ((c72.1, c72.2 + 1), c73))
 )
noncomputable def wire_Check_l0 (x0 : api_Msg) (s : (List (BitVec 8) × Nat) × api_Msg) : Option (((List (BitVec 8) × Nat) × api_Msg) ⊕ (Err)) := loopO (fun s => wire_Check_b0 x0 s.1 s.2) s
noncomputable def wire_Check (x0 : api_Msg) : Option (Err) :=
 (
  lt (decide (x0.Kind < (1 : Int))) fun v6 =>
  if v6 = true then
   some true
  else
   lt (decide (x0.Kind > (6 : Int))) fun v9 =>
   some v9
 : Option (Bool)).bind fun s1 =>
  if s1 = true then
   (trouble_New ([107#8, 105#8, 110#8, 100#8] : List (BitVec 8)) x0.Kind (12 : Int)).bind fun v13 =>
   some v13
  else
   (wire_down x0.Kind).bind fun v15 =>
   (
    if v15 = true then
     some (x0.To, x0.From)
    else
     some (x0.From, x0.To)
   : Option (Int × Int)).bind fun s16 =>
    (
     lt (decide (s16.1 < (1 : Int))) fun v27 =>
     if v27 = true then
      some true
     else
      lt (decide (s16.1 > (16 : Int))) fun v30 =>
      if v30 = true then
       some true
      else
       lt (s16.2 != (0 : Int)) fun v33 =>
       some v33
    : Option (Bool)).bind fun s22 =>
     if s22 = true then
      (trouble_New ([112#8, 108#8, 97#8, 99#8, 101#8] : List (BitVec 8)) s16.1 (2 : Int)).bind fun v37 =>
      some v37
     else
      (
       lt (decide (x0.Epoch < (1 : Int))) fun v43 =>
       if v43 = true then
        some true
       else
        lt (decide (x0.Epoch > (1099511627776 : Int))) fun v46 =>
        some v46
      : Option (Bool)).bind fun s38 =>
       if s38 = true then
        (trouble_New ([101#8, 112#8, 111#8, 99#8, 104#8] : List (BitVec 8)) x0.Epoch (2 : Int)).bind fun v50 =>
        some v50
       else
        lt ((x0 : api_Msg)) fun c54 =>
        lt (({ c54 with Kind := (0 : Int) } : api_Msg)) fun c57 =>
        lt (({ c57 with From := (0 : Int) } : api_Msg)) fun c60 =>
        lt (({ c60 with To := (0 : Int) } : api_Msg)) fun c63 =>
        lt (({ c63 with Epoch := (0 : Int) } : api_Msg)) fun c66 =>
        (wire_parts x0.Kind).bind fun v69 =>
        (wire_Check_l0 x0 ((v69, 0), c66)).bind fun o74 =>
         Sum.elim (fun s81 : (List (BitVec 8) × Nat) × api_Msg =>
          (
           lt (s81.2.Id != (0 : Int)) fun v172 =>
           if v172 = true then
            some true
           else
            if s81.2.Found = true then
             some true
            else
             (item_Same s81.2.X (⟨([] : List (BitVec 8)), (0 : Int), (0 : Int), (0 : Int), ([] : List (BitVec 8))⟩ : api_Entry)).bind fun v176 =>
             lt (!v176) fun v178 =>
             some v178
          : Option (Bool)).bind fun s167 =>
           if s167 = true then
            (trouble_New ([109#8, 101#8, 115#8, 115#8, 97#8, 103#8, 101#8] : List (BitVec 8)) x0.Kind (5 : Int)).bind fun v182 =>
            some v182
           else
            some Err.nil
          ) (fun y => some y) o74
noncomputable def checksum_Four (x0 : BitVec 32) : Option ((List (BitVec 8))) :=
 lt (BitVec.setWidth 8 x0) fun v4 =>
 lt (x0 >>> 8) fun v6 =>
 lt (BitVec.setWidth 8 v6) fun v8 =>
 lt (x0 >>> 16) fun v10 =>
 lt (BitVec.setWidth 8 v10) fun v12 =>
 lt (x0 >>> 24) fun v14 =>
 lt (BitVec.setWidth 8 v14) fun v16 =>
 lt (([v4, v8, v12, v16] : List (BitVec 8))) fun v18 =>
 (stW 4 (List.replicate 4 0#8) v18).bind fun c20 =>
 (whole 4 c20).bind fun w22 =>
 some w22
noncomputable def checksum_column_b0  (c3 : BitVec 32) (c4 : Int) : Option (((BitVec 32) × Int) ⊕ ((BitVec 32))) :=
 lt (decide (c4 < (8 : Int))) fun v15 =>
 if v15 = true then
  lt (c3 &&& 1#32) fun v18 =>
  lt (v18 == 1#32) fun v20 =>
  if v20 = true then
   lt (c3 >>> 1) fun v23 =>
   lt (v23 ^^^ 3988292384#32) fun v25 =>
   lt (w64 (c4 + (1 : Int))) fun v27 =>
   some (.inl (v25, v27))
  else
   lt (c3 >>> 1) fun v29 =>
   lt (w64 (c4 + (1 : Int))) fun v31 =>
   some (.inl (v29, v31))
 else
  some (.inr c3)
noncomputable def checksum_column_l0  (s : (BitVec 32) × Int) : Option ((BitVec 32)) := loopO (fun s => checksum_column_b0 s.1 s.2) s
noncomputable def checksum_column (x0 : BitVec 8) : Option ((BitVec 32)) :=
 lt (BitVec.setWidth 32 x0) fun v2 =>
 (checksum_column_l0 (v2, (0 : Int))).bind fun s12 =>
  some s12
noncomputable def checksum_More_b0 (x1 : List (BitVec 8)) (v4 : Int) (c5 : BitVec 32) (c6 : Int) : Option (((BitVec 32) × Int) ⊕ ((BitVec 32))) :=
 lt (decide (c6 < v4)) fun v17 =>
 if v17 = true then
  (ix x1 c6).bind fun v20 =>
  lt (c5 >>> 8) fun v22 =>
  lt (BitVec.setWidth 8 c5) fun v24 =>
  lt (v24 ^^^ v20) fun v26 =>
  (checksum_column v26).bind fun v28 =>
  lt (v22 ^^^ v28) fun v30 =>
  lt (w64 (c6 + (1 : Int))) fun v32 =>
  some (.inl (v30, v32))
 else
  some (.inr c5)
noncomputable def checksum_More_l0 (x1 : List (BitVec 8)) (v4 : Int) (s : (BitVec 32) × Int) : Option ((BitVec 32)) := loopO (fun s => checksum_More_b0 x1 v4 s.1 s.2) s
noncomputable def checksum_More (x0 : BitVec 32) (x1 : List (BitVec 8)) : Option ((BitVec 32)) :=
 lt (~~~ x0) fun v2 =>
 lt (((x1).length : Int)) fun v4 =>
 (checksum_More_l0 x1 v4 (v2, (0 : Int))).bind fun s14 =>
  lt (~~~ s14) fun v35 =>
  some v35
noncomputable def checksum_Sum (x0 : List (BitVec 8)) : Option ((BitVec 32)) :=
 (checksum_More 0#32 x0).bind fun v2 =>
 some v2
end Go.Proofs.YtedcgeghgbgonaaDoor
