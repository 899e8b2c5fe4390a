/- What is known of the program's types; operations on whole numbers, strings, bools; their soundness. -/
import Derived.Test.YtnjijefhnmnjgaaVaA
import Derived.Lib.Bytes
import Derived.Lib.Strings
namespace Go.Va
open Go Go.RowKit
set_option linter.unusedVariables false
set_option linter.unusedSimpArgs false

inductive TD where
  | int (k : IntKind) | bool | str | slice (e : TypeId) | arr (n : Nat) (e : TypeId) | struct (fs : List (Nat × TypeId)) | ptr (e : TypeId) | iface | func | map (k e : TypeId) | other
  deriving Inhabited
structure TI where
  d : TD
  sz : Nat
  bytes : Nat
  zero : AV
  deriving Inhabited

def TdOk (P : Program) (t : TypeId) : TD → Prop
  | .int k => P.underlying t = some (.int k)
  | .bool => P.underlying t = some .bool
  | .str => P.underlying t = some .string
  | .slice e => P.underlying t = some (.slice e)
  | .arr n e => P.underlying t = some (.array n e)
  | .struct fs => ∃ fields : Array Field, P.underlying t = some (.struct fields) ∧ fields.toList.map (fun f => (f.offset, f.type)) = fs
  | .ptr e => P.underlying t = some (.pointer e)
  | .iface => ∃ ms, P.underlying t = some (.interface ms)
  | .func => ∃ ps rs v, P.underlying t = some (.func ps rs v)
  | .map k e => P.underlying t = some (.map k e)
  | .other => False
structure TiOk (P : Program) (t : TypeId) (i : TI) : Prop where
  d : TdOk P t i.d
  info : ∃ ti z, P.info? t = some ti ∧ ti.size = i.sz ∧ ti.bytes = i.bytes ∧ ti.zero = some z ∧ (∀ G, RelL G z.cells.toList i.zero.cells) ∧ z.cells.size = i.sz ∧ i.zero.cells.length = i.sz ∧ z.cells.all (·.oneCell') = true
/-- The table of types is as the program has them, where it says anything. -/
def TyOk (P : Program) (Ty : TypeId → Option TI) : Prop := ∀ t i, Ty t = some i → TiOk P t i

/-- A constant as an abstract value. -/
def ofConst : Value → AV
  | .int k n => .int k n
  | .bool b => .bool b
  | .string s => .str s
  | .pointer none => .nilp
  | .slice none 0 0 => .nils
  | .map none => .nilm
  | .nilFunc => .nilf
  | .nilIface => .nili
  | _ => .junk
theorem rel_ofConst (G : Ghost) (v : Value) : Rel G v (ofConst v) := by
  unfold ofConst
  split <;> constructor
def aeval (fr : Nat → AV) : Operand → AV
  | .tmp t => fr t
  | .const v => ofConst v
  | .func f => .fn (.func f) [] []
  | .global _ => .junk
theorem rel_aeval {G : Ghost} {a : Act} {fr : Nat → AV} (h : FrameRel G a.tmps fr) (x : Operand) : Rel G (a.eval x) (aeval fr x) := by
  cases x with
  | tmp t => exact h t
  | const v => exact rel_ofConst G v
  | func f => exact .fn _ #[] #[] [] [] rfl rfl (fun i v a h => by simp at h) (fun i v a h => by simp at h)
  | global g => exact .junk _

/-! ### whole numbers, bools, strings -/
def aarith (op : BinOp) (k : IntKind) (x y : Int) : Option AV :=
  match op with
  | .add => some (.int k (k.wrap (x + y)))
  | .sub => some (.int k (k.wrap (x - y)))
  | .mul => some (.int k (k.wrap (x * y)))
  | .quo => if y = 0 then none else some (.int k (k.wrap (x.tdiv y)))
  | .rem => if y = 0 then none else some (.int k (x.tmod y))
  | .and => some (.int k (bits .and k x y))
  | .or => some (.int k (bits .or k x y))
  | .xor => some (.int k (bits .xor k x y))
  | .andNot => some (.int k (bits .andNot k x y))
  | .eql => some (.bool (x == y))
  | .neq => some (.bool (x != y))
  | .lss => some (.bool (x < y))
  | .leq => some (.bool (x ≤ y))
  | .gtr => some (.bool (x > y))
  | .geq => some (.bool (x ≥ y))
  | _ => none
def ashift (op : BinOp) (k : IntKind) (x y : Int) : Option AV :=
  if y < 0 then none else match op with
  | .shl => some (.int k (k.wrap (x * 2 ^ min y.toNat k.bits)))
  | .shr => some (.int k (x.fdiv (2 ^ min y.toNat k.bits)))
  | _ => none
def astr (op : BinOp) (x y : ByteArray) : Option AV :=
  match op with
  | .add => if x.size + y.size ≤ 9223372036854775807 then some (.str (x ++ y)) else none
  | .eql => some (.bool (decide (x = y)))
  | .neq => some (.bool (!decide (x = y)))
  | .lss => some (.bool (Op.bytesLess x.toList y.toList))
  | _ => none
/-- Is this a literal? -/
def isC : Operand → Bool
  | .const _ => true
  | _ => false
def tdOf (Ty : TypeId → Option TI) (t : TypeId) : TD := match Ty t with | some i => i.d | none => .other
theorem tdOf_ok {P : Program} {Ty : TypeId → Option TI} (hT : TyOk P Ty) {t : TypeId} {d : TD} (h : tdOf Ty t = d) (hd : d ≠ .other) : TdOk P t d := by
  unfold tdOf at h
  split at h
  · rename_i i hi
    subst h
    exact (hT t i hi).d
  · exact absurd h.symm hd
def aeq (op : BinOp) (b : Bool) : Option AV :=
  match op with
  | .eql => some (.bool b)
  | .neq => some (.bool (!b))
  | _ => none
def abin (Ty : TypeId → Option TI) (op : BinOp) (t : TypeId) (ox oy : Operand) (x y : AV) : Option AV :=
  match x, y with
  | .int k a, .int k' b => match op with
    | .shl => ashift .shl k a b
    | .shr => ashift .shr k a b
    | _ => if k = k' then aarith op k a b else none
  | .str a, .str b => astr op a b
  | .bool a, .bool b => match tdOf Ty t with | .bool => aeq op (a == b) | _ => none
  | .nili, .nili => match tdOf Ty t with | .iface => if isC ox || isC oy then aeq op true else none | _ => none
  | .iface _ _, .nili => match tdOf Ty t with | .iface => aeq op false | _ => none
  | .nili, .iface _ _ => match tdOf Ty t with | .iface => aeq op false | _ => none
  | .nilp, .nilp => match tdOf Ty t with | .ptr _ => aeq op true | _ => none
  | .ref _ _, .nilp => match tdOf Ty t with | .ptr _ => aeq op false | _ => none
  | .fptr _ _, .nilp => match tdOf Ty t with | .ptr _ => aeq op false | _ => none
  | _, _ => none

theorem beq_str (a b : ByteArray) : (a.toList == b.toList) = decide (a = b) := by
  rw [Bool.eq_iff_iff]
  simp only [beq_iff_eq, decide_eq_true_iff]
  constructor
  · intro h
    rw [Lib.toList_data, Lib.toList_data] at h
    cases a; cases b
    simp at h
    rw [h]
  · rintro rfl; rfl

section
variable {P : Program} {Ty : TypeId → Option TI} {G : Ghost} {w : World}
theorem aarith_sound {op : BinOp} {k : IntKind} {x y : Int} {a : AV} (h : aarith op k x y = some a) (hs : op ≠ .shl) (hr : op ≠ .shr) (t : TypeId) :
    ∃ v, (binOp op t (.int k x) (.int k y)).run P w = .ok v w ∧ Rel G v a := by
  cases op <;> simp only [aarith] at h
  case shl => exact absurd rfl hs
  case shr => exact absurd rfl hr
  case quo => split at h <;> simp_all; subst h; exact ⟨_, by simp [binOp, Op.intDiv, *], .int _ _⟩
  case rem => split at h <;> simp_all; subst h; exact ⟨_, by simp [binOp, Op.intDiv, *], .int _ _⟩
  all_goals simp only [Option.some.injEq] at h; subst h; exact ⟨_, (by simp only [binOp, ne_eq, not_true_eq_false, if_false]; rfl), by constructor⟩
theorem ashift_sound {op : BinOp} {k : IntKind} {x y : Int} {a : AV} (h : ashift op k x y = some a) (k' : IntKind) (t : TypeId) :
    ∃ v, (binOp op t (.int k x) (.int k' y)).run P w = .ok v w ∧ Rel G v a := by
  unfold ashift at h
  split at h
  · cases h
  · cases op <;> simp at h <;> subst h
    · exact ⟨_, by simp [binOp, Op.shift, *], .int _ _⟩
    · exact ⟨_, by simp [binOp, Op.shift, *], .int _ _⟩
theorem astr_sound {op : BinOp} {x y : ByteArray} {a : AV} (h : astr op x y = some a) (t : TypeId) :
    ∃ v, (binOp op t (.string x) (.string y)).run P w = .ok v w ∧ Rel G v a := by
  cases op <;> simp only [astr] at h
  case add =>
    split at h
    · rename_i hle
      simp at h; subst h
      refine ⟨_, ?_, .str _⟩
      have : ¬ ((x.size + y.size : Nat) : Int) > IntKind.i64.max := by
        have e : IntKind.i64.max = 9223372036854775807 := by decide
        rw [e]; omega
      simp only [binOp, Op.stringOp, if_neg this]
      rfl
    · cases h
  case eql => simp only [Option.some.injEq] at h; subst h; exact ⟨_, (by simp only [binOp, Op.stringOp, beq_str]; rfl), .bool _⟩
  case neq => simp only [Option.some.injEq] at h; subst h; exact ⟨_, (by simp only [binOp, Op.stringOp, beq_str]; rfl), .bool _⟩
  case lss => simp only [Option.some.injEq] at h; subst h; exact ⟨_, (by simp only [binOp, Op.stringOp]; rfl), .bool _⟩
  all_goals cases h
theorem eqGuard_bare (op : BinOp) (t : TypeId) (ox oy : Operand) (a b : Value) (hn : ¬ (a = .nilIface ∧ b = .nilIface)) (ha : ∀ x y, ¬ (a = .agg x ∧ b = .agg y)) : (eqGuard op t ox oy a b).run P w = .ok () w := by
  cases op
  case eql | neq =>
    unfold eqGuard
    simp only [Bool.not_true, Bool.false_eq_true, if_false]
    split
    · exact absurd ⟨rfl, rfl⟩ hn
    · rename_i x y; exact absurd ⟨rfl, rfl⟩ (ha x y)
    · rfl
  all_goals rfl
theorem eqIn_bool {d : Nat} {t : TypeId} (hu : P.underlying t = some .bool) (a b : Bool) : (Op.equalIn (d + 1) t (.bool a) (.bool b)).run P w = .ok (a == b) w := by
  simp [Op.equalIn, run_underlying hu]
theorem eqIn_nili {d : Nat} {t : TypeId} {ms : Array (String × TypeId)} (hu : P.underlying t = some (.interface ms)) : (Op.equalIn (d + 1) t .nilIface .nilIface).run P w = .ok true w := by
  simp [Op.equalIn, run_underlying hu]
theorem eqIn_iface_nil {d : Nat} {t : TypeId} {ms : Array (String × TypeId)} (hu : P.underlying t = some (.interface ms)) (u : TypeId) (x : Value) : (Op.equalIn (d + 1) t (.iface u x) .nilIface).run P w = .ok false w := by
  simp [Op.equalIn, run_underlying hu]
theorem eqIn_nil_iface {d : Nat} {t : TypeId} {ms : Array (String × TypeId)} (hu : P.underlying t = some (.interface ms)) (u : TypeId) (x : Value) : (Op.equalIn (d + 1) t .nilIface (.iface u x)).run P w = .ok false w := by
  simp [Op.equalIn, run_underlying hu]
theorem eqIn_ptr_nil {d : Nat} {t e : TypeId} (hu : P.underlying t = some (.pointer e)) (p : Option Addr) : (Op.equalIn (d + 1) t (.pointer p) (.pointer none)).run P w = .ok p.isNone w := by
  cases p <;> simp [Op.equalIn, run_underlying hu]
theorem aeq_sound {op : BinOp} {b : Bool} {a : AV} (h : aeq op b = some a) {t : TypeId} {x y : Value} (he : (Op.equal t x y).run P w = .ok b w) (hx : ∀ k n, x ≠ .int k n) (hf : ∀ k n, x ≠ .float k n) (hc : ∀ k n m, x ≠ .complex k n m) (hs : ∀ s, x ≠ .string s) :
    ∃ v, (binOp op t x y).run P w = .ok v w ∧ Rel G v a := by
  cases op <;> simp only [aeq] at h
  case eql =>
    simp at h; subst h
    refine ⟨.bool b, ?_, .bool _⟩
    unfold binOp
    split <;> simp_all
  case neq =>
    simp at h; subst h
    refine ⟨.bool (!b), ?_, .bool _⟩
    unfold binOp
    split <;> simp_all
  all_goals cases h
theorem eqGuard_nili (op : BinOp) (t : TypeId) (ox oy : Operand) (h : (isC ox || isC oy) = true) : (eqGuard op t ox oy .nilIface .nilIface).run P w = .ok () w := by
  cases op
  case eql | neq => cases ox <;> cases oy <;> first | rfl | (simp [isC] at h)
  all_goals rfl
theorem abin_sound (hT : TyOk P Ty) (op : BinOp) (t : TypeId) (ox oy : Operand) {x y : AV} {vx vy : Value} (hx : Rel G vx x) (hy : Rel G vy y) {a : AV} (h : abin Ty op t ox oy x y = some a) :
    ∃ v, ((do eqGuard op t ox oy vx vy; binOp op t vx vy : Sem Value)).run P w = .ok v w ∧ Rel G v a := by
  have bare : (∃ v, (binOp op t vx vy).run P w = .ok v w ∧ Rel G v a) → (eqGuard op t ox oy vx vy).run P w = .ok () w → ∃ v, ((do eqGuard op t ox oy vx vy; binOp op t vx vy : Sem Value)).run P w = .ok v w ∧ Rel G v a := by
    rintro ⟨v, h1, h2⟩ h3
    exact ⟨v, by simp [Sem.run_bind, h3, h1, Result.andThen], h2⟩
  unfold abin at h
  split at h
  · cases hx; cases hy
    refine bare ?_ (eqGuard_bare _ _ _ _ _ _ (by simp) (by simp))
    split at h
    · exact ashift_sound h _ t
    · exact ashift_sound h _ t
    · rename_i h1 h2
      split at h
      · rename_i hk; subst hk
        exact aarith_sound h h1 h2 t
      · cases h
  · cases hx; cases hy
    exact bare (astr_sound h t) (eqGuard_bare _ _ _ _ _ _ (by simp) (by simp))
  · cases hx; cases hy
    split at h
    · rename_i hd
      exact bare (aeq_sound h (eqIn_bool (d := 9999) (tdOf_ok hT hd (by simp)) _ _) (by simp) (by simp) (by simp) (by simp)) (eqGuard_bare _ _ _ _ _ _ (by simp) (by simp))
    · cases h
  · cases hx; cases hy
    split at h
    · rename_i hd
      obtain ⟨ms, hu⟩ := tdOf_ok hT hd (by simp)
      split at h
      · rename_i hc
        exact bare (aeq_sound h (eqIn_nili (d := 9999) hu) (by simp) (by simp) (by simp) (by simp)) (eqGuard_nili _ _ _ _ hc)
      · cases h
    · cases h
  · cases hx; cases hy
    split at h
    · rename_i hd
      obtain ⟨ms, hu⟩ := tdOf_ok hT hd (by simp)
      exact bare (aeq_sound h (eqIn_iface_nil (d := 9999) hu _ _) (by simp) (by simp) (by simp) (by simp)) (eqGuard_bare _ _ _ _ _ _ (by simp) (by simp))
    · cases h
  · cases hx; cases hy
    split at h
    · rename_i hd
      obtain ⟨ms, hu⟩ := tdOf_ok hT hd (by simp)
      exact bare (aeq_sound h (eqIn_nil_iface (d := 9999) hu _ _) (by simp) (by simp) (by simp) (by simp)) (eqGuard_bare _ _ _ _ _ _ (by simp) (by simp))
    · cases h
  · cases hx; cases hy
    split at h
    · rename_i hd
      exact bare (aeq_sound h (eqIn_ptr_nil (d := 9999) (tdOf_ok hT hd (by simp)) none) (by simp) (by simp) (by simp) (by simp)) (eqGuard_bare _ _ _ _ _ _ (by simp) (by simp))
    · cases h
  · cases hx; cases hy
    split at h
    · rename_i hd
      exact bare (aeq_sound h (eqIn_ptr_nil (d := 9999) (tdOf_ok hT hd (by simp)) (some _)) (by simp) (by simp) (by simp) (by simp)) (eqGuard_bare _ _ _ _ _ _ (by simp) (by simp))
    · cases h
  · cases hx; cases hy
    split at h
    · rename_i hd
      exact bare (aeq_sound h (eqIn_ptr_nil (d := 9999) (tdOf_ok hT hd (by simp)) (some _)) (by simp) (by simp) (by simp) (by simp)) (eqGuard_bare _ _ _ _ _ _ (by simp) (by simp))
    · cases h
  · cases h

/-! ### one operand -/
def aun (op : UnOp) (x : AV) : Option AV :=
  match op, x with
  | .neg, .int k n => some (.int k (k.wrap (0 - n)))
  | .xor, .int k n => some (.int k (bits .xor k (if k.signed then -1 else k.max) n))
  | .not, .bool b => some (.bool (!b))
  | _, _ => none
theorem aun_sound (op : UnOp) {x : AV} {vx : Value} (hx : Rel G vx x) {a : AV} (h : aun op x = some a) : ∃ v, (Op.unary op vx).run P w = .ok v w ∧ Rel G v a := by
  unfold aun at h
  split at h
  · cases h; cases hx; exact ⟨_, rfl, .int _ _⟩
  · cases h; cases hx; exact ⟨_, rfl, .int _ _⟩
  · cases h; cases hx; exact ⟨_, rfl, .bool _⟩
  · cases h
/-- Conversions that touch no memory. -/
def aconv (Ty : TypeId → Option TI) (src dst : TypeId) (x : AV) : Option AV :=
  match tdOf Ty src, tdOf Ty dst, x with
  | .int _, .int k, .int _ n => some (.int k (k.wrap n))
  | .str, .str, .str s => some (.str s)
  | .int _, .str, .int _ n => some (.str (Utf8.encode n))
  | _, _, _ => none
theorem aconv_sound (hT : TyOk P Ty) (src dst : TypeId) {x : AV} {vx : Value} (hx : Rel G vx x) {a : AV} (h : aconv Ty src dst x = some a) : ∃ v, (convert src dst vx).run P w = .ok v w ∧ Rel G v a := by
  unfold aconv at h
  split at h
  · rename_i hs hd
    cases h; cases hx
    exact ⟨_, by simp [convert, run_underlying (tdOf_ok hT hs (by simp)), run_underlying (tdOf_ok hT hd (by simp)), Conv.intToInt], .int _ _⟩
  · rename_i hs hd
    cases h; cases hx
    exact ⟨_, by simp [convert, run_underlying (tdOf_ok hT hs (by simp)), run_underlying (tdOf_ok hT hd (by simp))], .str _⟩
  · rename_i hs hd
    cases h; cases hx
    exact ⟨_, by simp [convert, run_underlying (tdOf_ok hT hs (by simp)), run_underlying (tdOf_ok hT hd (by simp)), Conv.intToString], .str _⟩
  · cases h
end
end Go.Va
