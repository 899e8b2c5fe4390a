/- Counted loops, ways out, bits, rows of elements; a law's call becomes what its row wants. -/
import Derived.Test.YtnjijefhnmnjgaaVaP
import Derived.Laws.BitsLemmas
namespace Go.Va
open Go Go.RowKit
set_option linter.unusedVariables false
set_option linter.unusedSimpArgs false

section
variable {P : Program} {Ty : TypeId → Option TI} {mu : Option Tmp → Bool} {n : Nat} {σ : St} {ops : Array Oper}
theorem awp_loopN {c : Code} {Q : AExit → (Nat → AV) → St → Prop} (N : Nat) (I : Nat → (Nat → AV) → St → Prop) {fr : Nat → AV} (i0 : Nat) (h0 : I i0 fr σ)
    (h : ∀ i fr σ, I i fr σ → AWP P n c (fun e fr' σ' => match e with | .normal => i < N ∧ I (i + 1) fr' σ' | e => Q e fr' σ') fr σ) : AWP P n (.loop c) Q fr σ := by
  intro w0 G a w hS b kk cs
  have key : ∀ (k i : Nat) (G' : Ghost) (a : Act) (w : World) (fr : Nat → AV) (σ : St), N - i ≤ k → G.Le G' → I i fr σ → Sim w0 G' n a w fr σ → ∃ e a' w', (∃ ae fr' σ' G', ExitRel e ae ∧ G.Le G' ∧ Sim w0 G' n a' w' fr' σ' ∧ Q ae fr' σ') ∧ Arrives P (lone (b.at a (.code c :: .inLoop c :: kk)) cs w) b kk cs e a' w' := by
    intro k
    induction k with
    | zero =>
      intro i G' a w fr σ hk hG hI hS
      obtain ⟨e, a1, w1, ⟨ae, fr', σ', G2, hr, hG2, hS2, hq⟩, harr⟩ := h i fr σ hI w0 G' a w hS b (.inLoop c :: kk) cs
      cases e with
      | normal =>
        cases ae <;> simp only [ExitRel] at hr
        have := hq.1
        omega
      | exit id => exact ⟨_, a1, w1, ⟨ae, fr', σ', G2, hr, hG.trans hG2, hS2, by cases ae <;> simp only [ExitRel] at hr <;> exact hq⟩, .pass (x := .inLoop c) rfl (fun _ _ => .inl (by simp)) harr⟩
      | ret => exact ⟨_, a1, w1, ⟨ae, fr', σ', G2, hr, hG.trans hG2, hS2, by cases ae <;> simp only [ExitRel] at hr <;> exact hq⟩, .pass (x := .inLoop c) rfl (fun _ _ => .inl (by simp)) harr⟩
      | goto l => exact absurd hr (by cases ae <;> simp [ExitRel])
      | panic ch => exact absurd hr (by cases ae <;> simp [ExitRel])
      | outgrown => exact absurd hr (by cases ae <;> simp [ExitRel])
    | succ k ih =>
      intro i G' a w fr σ hk hG hI hS
      obtain ⟨e, a1, w1, ⟨ae, fr', σ', G2, hr, hG2, hS2, hq⟩, harr⟩ := h i fr σ hI w0 G' a w hS b (.inLoop c :: kk) cs
      cases e with
      | normal =>
        cases ae <;> simp only [ExitRel] at hr
        obtain ⟨hlt, hI2⟩ := hq
        obtain ⟨e3, a3, w3, hq3, harr3⟩ := ih (i + 1) G2 a1 w1 fr' σ' (by omega) (hG.trans hG2) hI2 hS2
        exact ⟨e3, a3, w3, hq3, .of_steps (Steps.trans harr (.one step_inLoop)) harr3⟩
      | exit id => exact ⟨_, a1, w1, ⟨ae, fr', σ', G2, hr, hG.trans hG2, hS2, by cases ae <;> simp only [ExitRel] at hr <;> exact hq⟩, .pass (x := .inLoop c) rfl (fun _ _ => .inl (by simp)) harr⟩
      | ret => exact ⟨_, a1, w1, ⟨ae, fr', σ', G2, hr, hG.trans hG2, hS2, by cases ae <;> simp only [ExitRel] at hr <;> exact hq⟩, .pass (x := .inLoop c) rfl (fun _ _ => .inl (by simp)) harr⟩
      | goto l => exact absurd hr (by cases ae <;> simp [ExitRel])
      | panic ch => exact absurd hr (by cases ae <;> simp [ExitRel])
      | outgrown => exact absurd hr (by cases ae <;> simp [ExitRel])
  obtain ⟨e, a', w', hq, harr⟩ := key (N - i0) i0 G a w fr σ (Nat.le_refl _) (.refl G) h0 hS
  exact ⟨e, a', w', hq, .of_steps (.one step_loop) harr⟩
/-- A counted loop. -/
theorem wpc_for {Q : AExit → (Nat → AV) → St → Prop} {c : Code} {fr : Nat → AV} (hT : TyOk P Ty) (N : Nat) (I : Nat → (Nat → AV) → St → Prop) (i0 : Nat) (h0 : I i0 fr σ)
    (h : ∀ i fr σ, I i fr σ → wpc P Ty mu n c (fun e fr' σ' => match e with | .normal => i < N ∧ I (i + 1) fr' σ' | e => Q e fr' σ') fr σ) : wpc P Ty mu n (.loop c) Q fr σ := by
  simp only [wpc]
  exact awp_loopN N I i0 h0 (fun i fr σ hI => wpc_sound hT c _ fr σ (h i fr σ hI))
theorem wpo_gop {K : (Nat → AV) → St → Prop} {o : Oper} {rest : List Oper} {fr : Nat → AV} {a : AV} {σ' : St} {t : Tmp} (hd : o.dst = some t) (ht : Nat.ble (t + 1) n = true) (hg : guardOf ops o fr = some true) (hc : callOf o = none) (ha : aop Ty (mu (some t)) o (aeval fr) σ = some (a, σ')) (h : wpo P Ty mu n ops K rest (upd fr t a) σ') :
    wpo P Ty mu n ops K (o :: rest) fr σ := by
  refine ⟨by rw [hd]; exact Nat.le_of_ble_eq_true ht, ?_⟩
  rw [hg]
  simp only [wpx, hc, hd, ha]
  exact h
theorem wpo_gskip {K : (Nat → AV) → St → Prop} {o : Oper} {rest : List Oper} {fr : Nat → AV} {t : Tmp} (hd : o.dst = some t) (ht : Nat.ble (t + 1) n = true) (hg : guardOf ops o fr = some false) (h : wpo P Ty mu n ops K rest (upd fr t .junk) σ) :
    wpo P Ty mu n ops K (o :: rest) fr σ := by
  refine ⟨by rw [hd]; exact Nat.le_of_ble_eq_true ht, ?_⟩
  rw [hg]
  simp only [hd, putO]
  exact h
theorem wpo_gcall {K : (Nat → AV) → St → Prop} {o : Oper} {rest : List Oper} {fr : Nat → AV} {t : Tmp} {f : Operand} {xs : List Operand} {g : FuncId} {first cap args : List AV} {R : AV → St → Prop} (hd : o.dst = some t) (ht : Nat.ble (t + 1) n = true) (hg : guardOf ops o fr = some true) (hc : callOf o = some (f, xs))
    (hf : aeval fr f = .fn (.func g) first cap) (hargs : first ++ xs.map (aeval fr) ++ cap = args) (hcall : ACall P g args σ R) (h : ∀ a σ', R a σ' → wpo P Ty mu n ops K rest (upd fr t a) σ') : wpo P Ty mu n ops K (o :: rest) fr σ := by
  refine ⟨by rw [hd]; exact Nat.le_of_ble_eq_true ht, ?_⟩
  rw [hg]
  simp only [wpx, hc, hf, hd, hargs]
  exact hcall.mono h
theorem wpc_exit {Q : AExit → (Nat → AV) → St → Prop} {id : Nat} {fr : Nat → AV} (h : Q (.exit id) fr σ) : wpc P Ty mu n (.exit id) Q fr σ := by simp only [wpc]; exact h
theorem wpc_skip {Q : AExit → (Nat → AV) → St → Prop} {fr : Nat → AV} (h : Q .normal fr σ) : wpc P Ty mu n .skip Q fr σ := by simp only [wpc]; exact h
theorem wpc_label {Q : AExit → (Nat → AV) → St → Prop} {l : Nat} {fr : Nat → AV} (h : Q .normal fr σ) : wpc P Ty mu n (.label l) Q fr σ := by simp only [wpc]; exact h
theorem wpc_ret {Q : AExit → (Nat → AV) → St → Prop} {fr : Nat → AV} (h : Q .ret fr σ) : wpc P Ty mu n .ret Q fr σ := by simp only [wpc]; exact h
theorem at_ {c : Prop} [Decidable c] {A B : Prop} (hc : c) (h : A) : if c then A else B := by rw [if_pos hc]; exact h
theorem past {c : Prop} [Decidable c] {A B : Prop} (hc : ¬ c) (h : B) : if c then A else B := by rw [if_neg hc]; exact h
/-- What holds in the middle. -/
theorem AWP.wpc_mono (hT : TyOk P Ty) {c : Code} {Q Q' : AExit → (Nat → AV) → St → Prop} {fr : Nat → AV} (hq : ∀ e fr σ, Q e fr σ → Q' e fr σ) : AWP P n c Q fr σ → AWP P n c Q' fr σ := fun h => h.mono hq
theorem wpo_mono {K K' : (Nat → AV) → St → Prop} (hk : ∀ fr σ, K fr σ → K' fr σ) : ∀ (l : List Oper) (fr : Nat → AV) (σ : St), wpo P Ty mu n ops K l fr σ → wpo P Ty mu n ops K' l fr σ
  | [], fr, σ, h => hk _ _ h
  | o :: rest, fr, σ, h => by
    obtain ⟨hd, h⟩ := h
    refine ⟨hd, ?_⟩
    revert h
    cases hg : guardOf ops o fr with
    | none => exact id
    | some b =>
      cases b with
      | false => exact fun h => wpo_mono hk rest _ _ h
      | true =>
        unfold wpx
        cases hc : callOf o with
        | none => 
          simp only
          cases aop Ty (mu o.dst) o (aeval fr) σ with
          | none => exact id
          | some r => exact fun h => wpo_mono hk rest _ _ h
        | some fx =>
          simp only
          cases aeval fr fx.1 with
          | fn f first cap =>
            cases f with
            | func g => exact fun h => h.mono fun a σ' hh => wpo_mono hk rest _ _ hh
            | _ => exact id
          | _ => exact id
theorem wpc_mono : ∀ (c : Code) {Q Q' : AExit → (Nat → AV) → St → Prop} (hq : ∀ e fr σ, Q e fr σ → Q' e fr σ) (fr : Nat → AV) (σ : St), wpc P Ty mu n c Q fr σ → wpc P Ty mu n c Q' fr σ
  | .skip, Q, Q', hq, fr, σ, h => hq _ _ _ h
  | .region id ops d, Q, Q', hq, fr, σ, h => by
    revert h
    cases d with
    | true => simp only [wpc, if_true]; exact fun h => h.mono hq
    | false =>
      simp only [wpc, Bool.false_eq_true, if_false]
      exact fun h => ⟨h.1, wpo_mono (fun fr σ => hq _ _ _) _ _ _ h.2⟩
  | .seq a b, Q, Q', hq, fr, σ, h => by
    simp only [wpc] at h ⊢
    refine wpc_mono a ?_ fr σ h
    intro e fr σ he
    cases e with
    | normal => exact wpc_mono b hq fr σ he
    | _ => exact hq _ _ _ he
  | .cond c x y, Q, Q', hq, fr, σ, h => by
    simp only [wpc] at h ⊢
    split at h
    case h_2 => exact h.elim
    exact ⟨fun hb => wpc_mono x hq _ _ (h.1 hb), fun hb => wpc_mono y hq _ _ (h.2 hb)⟩
  | .block id c, Q, Q', hq, fr, σ, h => by
    simp only [wpc] at h ⊢
    refine wpc_mono c ?_ fr σ h
    intro e fr σ he
    cases e with
    | exit i =>
      simp only at he ⊢
      split
      · rename_i hi; rw [if_pos hi] at he; exact hq _ _ _ he
      · rename_i hi; rw [if_neg hi] at he; exact hq _ _ _ he
    | _ => exact hq _ _ _ he
  | .loop c, Q, Q', hq, fr, σ, h => by simp only [wpc] at h ⊢; exact h.mono hq
  | .exit id, Q, Q', hq, fr, σ, h => hq _ _ _ h
  | .label _, Q, Q', hq, fr, σ, h => hq _ _ _ h
  | .ret, Q, Q', hq, fr, σ, h => hq _ _ _ h
  | .rangeFunc .., _, _, _, _, _, h => h.elim
  | .scope _, _, _, _, _, _, h => h.elim
  | .goto _, _, _, _, _, _, h => h.elim
  | .refuse _, _, _, _, _, _, h => h.elim
/-- Code, cut at what holds in between. -/
theorem wpc_cut {a b : Code} {Q : AExit → (Nat → AV) → St → Prop} {fr : Nat → AV} (M : (Nat → AV) → St → Prop)
    (h : wpc P Ty mu n a (fun e fr σ => match e with | .normal => M fr σ | e => Q e fr σ) fr σ) (k : ∀ fr σ, M fr σ → wpc P Ty mu n b Q fr σ) : wpc P Ty mu n (.seq a b) Q fr σ := by
  refine wpc_seq (wpc_mono a ?_ fr σ h)
  intro e fr σ he
  cases e with
  | normal => exact k _ _ he
  | _ => exact he
end

/-! ### bits -/
section
variable (y : Int)
theorem wrap_u16 (n : Int) : IntKind.u16.wrap n = n % 65536 := by simp [IntKind.wrap, IntKind.bits, IntKind.signed]
theorem wrap_u64 (n : Int) : IntKind.u64.wrap n = n % 18446744073709551616 := by simp [IntKind.wrap, IntKind.bits, IntKind.signed]
theorem wrap_i64_id {n : Int} (h1 : -9223372036854775808 ≤ n) (h2 : n ≤ 9223372036854775807) : IntKind.i64.wrap n = n := by rw [IntKind.wrap_i64]; omega
theorem cv_u8 {m : Nat} (x : BitVec m) : IntKind.u8.wrap (x.toNat : Int) = ((x.setWidth 8).toNat : Int) := by rw [IntKind.wrap_u8, BitVec.toNat_setWidth]; omega
theorem cv_u16 {m : Nat} (x : BitVec m) : IntKind.u16.wrap (x.toNat : Int) = ((x.setWidth 16).toNat : Int) := by rw [wrap_u16, BitVec.toNat_setWidth]; omega
theorem cv_u32 {m : Nat} (x : BitVec m) : IntKind.u32.wrap (x.toNat : Int) = ((x.setWidth 32).toNat : Int) := by rw [IntKind.wrap_u32, BitVec.toNat_setWidth]; omega
theorem cv_u64 {m : Nat} (x : BitVec m) : IntKind.u64.wrap (x.toNat : Int) = ((x.setWidth 64).toNat : Int) := by rw [wrap_u64, BitVec.toNat_setWidth]; omega
theorem cv_i64_u8 (x : BitVec 8) : IntKind.i64.wrap (x.toNat : Int) = (x.toNat : Int) := by have := x.isLt; rw [IntKind.wrap_i64]; omega
theorem cv_i64_u16 (x : BitVec 16) : IntKind.i64.wrap (x.toNat : Int) = (x.toNat : Int) := by have := x.isLt; rw [IntKind.wrap_i64]; omega
theorem cv_i64_u32 (x : BitVec 32) : IntKind.i64.wrap (x.toNat : Int) = (x.toNat : Int) := by have := x.isLt; rw [IntKind.wrap_i64]; omega
theorem ofInt_toNat {m : Nat} (x : BitVec m) : BitVec.ofInt m (x.toNat : Int) = x := by
  rw [BitVec.ofInt_natCast]
  simp
theorem wrap_bv {k : IntKind} (hk : k.signed = false) (x : BitVec k.bits) : k.wrap (x.toNat : Int) = (x.toNat : Int) := by
  have h := x.isLt
  have e : ∀ m : Nat, m = k.bits → x.toNat < 2 ^ m := fun m hm => by rw [hm]; exact h
  cases k <;> simp only [IntKind.signed, Bool.true_eq_false] at hk
  · have := e 8 rfl; rw [IntKind.wrap_u8]; omega
  · have := e 16 rfl; rw [wrap_u16]; omega
  · have := e 32 rfl; rw [IntKind.wrap_u32]; omega
  · have := e 64 rfl; rw [wrap_u64]; omega
theorem xor_u8 (x y : BitVec 8) : bits .xor .u8 x.toNat y.toNat = ((x ^^^ y).toNat : Int) := by
  show IntKind.u8.wrap (((BitVec.ofInt 8 x.toNat) ^^^ (BitVec.ofInt 8 y.toNat)).toNat : Int) = _
  rw [ofInt_toNat, ofInt_toNat]; exact wrap_bv (k := .u8) rfl _
theorem xor_u32 (x y : BitVec 32) : bits .xor .u32 x.toNat y.toNat = ((x ^^^ y).toNat : Int) := by
  show IntKind.u32.wrap (((BitVec.ofInt 32 x.toNat) ^^^ (BitVec.ofInt 32 y.toNat)).toNat : Int) = _
  rw [ofInt_toNat, ofInt_toNat]; exact wrap_bv (k := .u32) rfl _
theorem xor_u64 (x y : BitVec 64) : bits .xor .u64 x.toNat y.toNat = ((x ^^^ y).toNat : Int) := by
  show IntKind.u64.wrap (((BitVec.ofInt 64 x.toNat) ^^^ (BitVec.ofInt 64 y.toNat)).toNat : Int) = _
  rw [ofInt_toNat, ofInt_toNat]; exact wrap_bv (k := .u64) rfl _
theorem and_u8 (x y : BitVec 8) : bits .and .u8 x.toNat y.toNat = ((x &&& y).toNat : Int) := by
  show IntKind.u8.wrap (((BitVec.ofInt 8 x.toNat) &&& (BitVec.ofInt 8 y.toNat)).toNat : Int) = _
  rw [ofInt_toNat, ofInt_toNat]; exact wrap_bv (k := .u8) rfl _
theorem and_u32 (x y : BitVec 32) : bits .and .u32 x.toNat y.toNat = ((x &&& y).toNat : Int) := by
  show IntKind.u32.wrap (((BitVec.ofInt 32 x.toNat) &&& (BitVec.ofInt 32 y.toNat)).toNat : Int) = _
  rw [ofInt_toNat, ofInt_toNat]; exact wrap_bv (k := .u32) rfl _
theorem and_u64 (x y : BitVec 64) : bits .and .u64 x.toNat y.toNat = ((x &&& y).toNat : Int) := by
  show IntKind.u64.wrap (((BitVec.ofInt 64 x.toNat) &&& (BitVec.ofInt 64 y.toNat)).toNat : Int) = _
  rw [ofInt_toNat, ofInt_toNat]; exact wrap_bv (k := .u64) rfl _
theorem or_u8 (x y : BitVec 8) : bits .or .u8 x.toNat y.toNat = ((x ||| y).toNat : Int) := by
  show IntKind.u8.wrap (((BitVec.ofInt 8 x.toNat) ||| (BitVec.ofInt 8 y.toNat)).toNat : Int) = _
  rw [ofInt_toNat, ofInt_toNat]; exact wrap_bv (k := .u8) rfl _
theorem or_u64 (x y : BitVec 64) : bits .or .u64 x.toNat y.toNat = ((x ||| y).toNat : Int) := by
  show IntKind.u64.wrap (((BitVec.ofInt 64 x.toNat) ||| (BitVec.ofInt 64 y.toNat)).toNat : Int) = _
  rw [ofInt_toNat, ofInt_toNat]; exact wrap_bv (k := .u64) rfl _
/-- Literals as bits. -/
theorem lit_u8 (h0 : 0 ≤ y) (h1 : y < 256) : y = ((BitVec.ofInt 8 y).toNat : Int) := by rw [BitVec.toNat_ofInt]; omega
theorem lit_u32 (h0 : 0 ≤ y) (h1 : y < 4294967296) : y = ((BitVec.ofInt 32 y).toNat : Int) := by rw [BitVec.toNat_ofInt]; omega
theorem lit_u64 (h0 : 0 ≤ y) (h1 : y < 18446744073709551616) : y = ((BitVec.ofInt 64 y).toNat : Int) := by rw [BitVec.toNat_ofInt]; omega
theorem xor_u32_lit (x : BitVec 32) (h0 : 0 ≤ y) (h1 : y < 4294967296) : bits .xor .u32 x.toNat y = ((x ^^^ BitVec.ofInt 32 y).toNat : Int) := by
  rw [show bits .xor .u32 x.toNat y = bits .xor .u32 x.toNat ((BitVec.ofInt 32 y).toNat : Int) by rw [← lit_u32 y h0 h1], xor_u32]
theorem and_u32_lit (x : BitVec 32) (h0 : 0 ≤ y) (h1 : y < 4294967296) : bits .and .u32 x.toNat y = ((x &&& BitVec.ofInt 32 y).toNat : Int) := by
  rw [show bits .and .u32 x.toNat y = bits .and .u32 x.toNat ((BitVec.ofInt 32 y).toNat : Int) by rw [← lit_u32 y h0 h1], and_u32]
theorem and_u64_lit (x : BitVec 64) (h0 : 0 ≤ y) (h1 : y < 18446744073709551616) : bits .and .u64 x.toNat y = ((x &&& BitVec.ofInt 64 y).toNat : Int) := by
  rw [show bits .and .u64 x.toNat y = bits .and .u64 x.toNat ((BitVec.ofInt 64 y).toNat : Int) by rw [← lit_u64 y h0 h1], and_u64]
theorem and_u8_lit (x : BitVec 8) (h0 : 0 ≤ y) (h1 : y < 256) : bits .and .u8 x.toNat y = ((x &&& BitVec.ofInt 8 y).toNat : Int) := by
  rw [show bits .and .u8 x.toNat y = bits .and .u8 x.toNat ((BitVec.ofInt 8 y).toNat : Int) by rw [← lit_u8 y h0 h1], and_u8]
theorem not_u32 (x : BitVec 32) : bits .xor .u32 IntKind.u32.max x.toNat = ((~~~ x).toNat : Int) := by
  rw [show IntKind.u32.max = (((4294967295#32 : BitVec 32).toNat : Nat) : Int) by decide, xor_u32]
  congr 1
theorem shr_bv {m : Nat} (k : IntKind) (hb : k.bits = m) (x : BitVec m) (h0 : 0 ≤ y) : ashift .shr k x.toNat y = some (.int k ((x >>> y.toNat).toNat : Int)) := by
  unfold ashift
  rw [if_neg (by omega)]
  simp only [Option.some.injEq, AV.int.injEq, true_and]
  rw [Int.fdiv_eq_ediv_of_nonneg _ (by exact Int.le_of_lt (Int.pow_pos (by decide)))]
  rw [BitVec.toNat_ushiftRight, Nat.shiftRight_eq_div_pow]
  have hx := x.isLt
  by_cases hy : y.toNat ≤ k.bits
  · rw [Nat.min_eq_left hy]
    norm_cast
  · rw [Nat.min_eq_right (by omega), hb, Nat.div_eq_of_lt (Nat.lt_of_lt_of_le hx (Nat.pow_le_pow_right (by decide) (by omega)))]
    norm_cast
    rw [Nat.div_eq_of_lt hx]
theorem shr_u8 (x : BitVec 8) (h0 : 0 ≤ y) : ashift .shr .u8 x.toNat y = some (.int .u8 ((x >>> y.toNat).toNat : Int)) := shr_bv y .u8 rfl x h0
theorem shr_u32 (x : BitVec 32) (h0 : 0 ≤ y) : ashift .shr .u32 x.toNat y = some (.int .u32 ((x >>> y.toNat).toNat : Int)) := shr_bv y .u32 rfl x h0
theorem shr_u64 (x : BitVec 64) (h0 : 0 ≤ y) : ashift .shr .u64 x.toNat y = some (.int .u64 ((x >>> y.toNat).toNat : Int)) := shr_bv y .u64 rfl x h0
theorem beq_bv {m : Nat} (x y : BitVec m) : ((x.toNat : Int) == (y.toNat : Int)) = decide (x = y) := by
  rw [Bool.eq_iff_iff]
  simp only [beq_iff_eq, decide_eq_true_iff]
  constructor
  · intro h; exact BitVec.eq_of_toNat_eq (by omega)
  · rintro rfl; rfl
theorem beq_bv8 (x : BitVec 8) (y : Int) (h0 : 0 ≤ y) (h1 : y < 256) : ((x.toNat : Int) == y) = decide (x = BitVec.ofInt 8 y) := by
  rw [← beq_bv, ← lit_u8 y h0 h1]
theorem beq_bv64 (x : BitVec 64) (y : Int) (h0 : 0 ≤ y) (h1 : y < 18446744073709551616) : ((x.toNat : Int) == y) = decide (x = BitVec.ofInt 64 y) := by
  rw [← beq_bv, ← lit_u64 y h0 h1]
theorem beq_bv32 (x : BitVec 32) (y : Int) (h0 : 0 ≤ y) (h1 : y < 4294967296) : ((x.toNat : Int) == y) = decide (x = BitVec.ofInt 32 y) := by
  rw [← beq_bv, ← lit_u32 y h0 h1]
end

theorem lit_bv8 (y : Int) (h0 : 0 ≤ y) (h1 : y < 256) : y = ((BitVec.ofInt 8 y).toNat : Int) := by rw [BitVec.toNat_ofInt]; omega
theorem lit_bv16 (y : Int) (h0 : 0 ≤ y) (h1 : y < 65536) : y = ((BitVec.ofInt 16 y).toNat : Int) := by rw [BitVec.toNat_ofInt]; omega
theorem lit_bv32 (y : Int) (h0 : 0 ≤ y) (h1 : y < 4294967296) : y = ((BitVec.ofInt 32 y).toNat : Int) := by rw [BitVec.toNat_ofInt]; omega
theorem lit_bv64 (y : Int) (h0 : 0 ≤ y) (h1 : y < 18446744073709551616) : y = ((BitVec.ofInt 64 y).toNat : Int) := by rw [BitVec.toNat_ofInt]; omega
theorem add_u8 (x y : BitVec 8) : IntKind.u8.wrap ((x.toNat : Int) + (y.toNat : Int)) = ((x + y).toNat : Int) := by
  have hx := x.isLt
  have hy := y.isLt
  rw [IntKind.wrap_u8, BitVec.toNat_add]
  omega
theorem add_u8_r (x : BitVec 8) (y : Int) (h0 : 0 ≤ y) (h1 : y < 256) : IntKind.u8.wrap ((x.toNat : Int) + y) = ((x + BitVec.ofInt 8 y).toNat : Int) := by
  rw [← add_u8, ← lit_bv8 y h0 h1]
theorem add_u8_l (x : BitVec 8) (y : Int) (h0 : 0 ≤ y) (h1 : y < 256) : IntKind.u8.wrap (y + (x.toNat : Int)) = ((BitVec.ofInt 8 y + x).toNat : Int) := by
  rw [← add_u8, ← lit_bv8 y h0 h1]
theorem sub_u8 (x y : BitVec 8) : IntKind.u8.wrap ((x.toNat : Int) - (y.toNat : Int)) = ((x - y).toNat : Int) := by
  have hx := x.isLt
  have hy := y.isLt
  rw [IntKind.wrap_u8, BitVec.toNat_sub]
  omega
theorem sub_u8_r (x : BitVec 8) (y : Int) (h0 : 0 ≤ y) (h1 : y < 256) : IntKind.u8.wrap ((x.toNat : Int) - y) = ((x - BitVec.ofInt 8 y).toNat : Int) := by
  rw [← sub_u8, ← lit_bv8 y h0 h1]
theorem sub_u8_l (x : BitVec 8) (y : Int) (h0 : 0 ≤ y) (h1 : y < 256) : IntKind.u8.wrap (y - (x.toNat : Int)) = ((BitVec.ofInt 8 y - x).toNat : Int) := by
  rw [← sub_u8, ← lit_bv8 y h0 h1]
theorem mul_u8 (x y : BitVec 8) : IntKind.u8.wrap ((x.toNat : Int) * (y.toNat : Int)) = ((x * y).toNat : Int) := by
  rw [IntKind.wrap_u8, BitVec.toNat_mul, Int.natCast_emod, Int.natCast_mul]; rfl
theorem mul_u8_r (x : BitVec 8) (y : Int) (h0 : 0 ≤ y) (h1 : y < 256) : IntKind.u8.wrap ((x.toNat : Int) * y) = ((x * BitVec.ofInt 8 y).toNat : Int) := by
  rw [← mul_u8, ← lit_bv8 y h0 h1]
theorem mul_u8_l (x : BitVec 8) (y : Int) (h0 : 0 ≤ y) (h1 : y < 256) : IntKind.u8.wrap (y * (x.toNat : Int)) = ((BitVec.ofInt 8 y * x).toNat : Int) := by
  rw [← mul_u8, ← lit_bv8 y h0 h1]
theorem add_u16 (x y : BitVec 16) : IntKind.u16.wrap ((x.toNat : Int) + (y.toNat : Int)) = ((x + y).toNat : Int) := by
  have hx := x.isLt
  have hy := y.isLt
  rw [wrap_u16, BitVec.toNat_add]
  omega
theorem add_u16_r (x : BitVec 16) (y : Int) (h0 : 0 ≤ y) (h1 : y < 65536) : IntKind.u16.wrap ((x.toNat : Int) + y) = ((x + BitVec.ofInt 16 y).toNat : Int) := by
  rw [← add_u16, ← lit_bv16 y h0 h1]
theorem add_u16_l (x : BitVec 16) (y : Int) (h0 : 0 ≤ y) (h1 : y < 65536) : IntKind.u16.wrap (y + (x.toNat : Int)) = ((BitVec.ofInt 16 y + x).toNat : Int) := by
  rw [← add_u16, ← lit_bv16 y h0 h1]
theorem sub_u16 (x y : BitVec 16) : IntKind.u16.wrap ((x.toNat : Int) - (y.toNat : Int)) = ((x - y).toNat : Int) := by
  have hx := x.isLt
  have hy := y.isLt
  rw [wrap_u16, BitVec.toNat_sub]
  omega
theorem sub_u16_r (x : BitVec 16) (y : Int) (h0 : 0 ≤ y) (h1 : y < 65536) : IntKind.u16.wrap ((x.toNat : Int) - y) = ((x - BitVec.ofInt 16 y).toNat : Int) := by
  rw [← sub_u16, ← lit_bv16 y h0 h1]
theorem sub_u16_l (x : BitVec 16) (y : Int) (h0 : 0 ≤ y) (h1 : y < 65536) : IntKind.u16.wrap (y - (x.toNat : Int)) = ((BitVec.ofInt 16 y - x).toNat : Int) := by
  rw [← sub_u16, ← lit_bv16 y h0 h1]
theorem mul_u16 (x y : BitVec 16) : IntKind.u16.wrap ((x.toNat : Int) * (y.toNat : Int)) = ((x * y).toNat : Int) := by
  rw [wrap_u16, BitVec.toNat_mul, Int.natCast_emod, Int.natCast_mul]; rfl
theorem mul_u16_r (x : BitVec 16) (y : Int) (h0 : 0 ≤ y) (h1 : y < 65536) : IntKind.u16.wrap ((x.toNat : Int) * y) = ((x * BitVec.ofInt 16 y).toNat : Int) := by
  rw [← mul_u16, ← lit_bv16 y h0 h1]
theorem mul_u16_l (x : BitVec 16) (y : Int) (h0 : 0 ≤ y) (h1 : y < 65536) : IntKind.u16.wrap (y * (x.toNat : Int)) = ((BitVec.ofInt 16 y * x).toNat : Int) := by
  rw [← mul_u16, ← lit_bv16 y h0 h1]
theorem add_u32 (x y : BitVec 32) : IntKind.u32.wrap ((x.toNat : Int) + (y.toNat : Int)) = ((x + y).toNat : Int) := by
  have hx := x.isLt
  have hy := y.isLt
  rw [IntKind.wrap_u32, BitVec.toNat_add]
  omega
theorem add_u32_r (x : BitVec 32) (y : Int) (h0 : 0 ≤ y) (h1 : y < 4294967296) : IntKind.u32.wrap ((x.toNat : Int) + y) = ((x + BitVec.ofInt 32 y).toNat : Int) := by
  rw [← add_u32, ← lit_bv32 y h0 h1]
theorem add_u32_l (x : BitVec 32) (y : Int) (h0 : 0 ≤ y) (h1 : y < 4294967296) : IntKind.u32.wrap (y + (x.toNat : Int)) = ((BitVec.ofInt 32 y + x).toNat : Int) := by
  rw [← add_u32, ← lit_bv32 y h0 h1]
theorem sub_u32 (x y : BitVec 32) : IntKind.u32.wrap ((x.toNat : Int) - (y.toNat : Int)) = ((x - y).toNat : Int) := by
  have hx := x.isLt
  have hy := y.isLt
  rw [IntKind.wrap_u32, BitVec.toNat_sub]
  omega
theorem sub_u32_r (x : BitVec 32) (y : Int) (h0 : 0 ≤ y) (h1 : y < 4294967296) : IntKind.u32.wrap ((x.toNat : Int) - y) = ((x - BitVec.ofInt 32 y).toNat : Int) := by
  rw [← sub_u32, ← lit_bv32 y h0 h1]
theorem sub_u32_l (x : BitVec 32) (y : Int) (h0 : 0 ≤ y) (h1 : y < 4294967296) : IntKind.u32.wrap (y - (x.toNat : Int)) = ((BitVec.ofInt 32 y - x).toNat : Int) := by
  rw [← sub_u32, ← lit_bv32 y h0 h1]
theorem mul_u32 (x y : BitVec 32) : IntKind.u32.wrap ((x.toNat : Int) * (y.toNat : Int)) = ((x * y).toNat : Int) := by
  rw [IntKind.wrap_u32, BitVec.toNat_mul, Int.natCast_emod, Int.natCast_mul]; rfl
theorem mul_u32_r (x : BitVec 32) (y : Int) (h0 : 0 ≤ y) (h1 : y < 4294967296) : IntKind.u32.wrap ((x.toNat : Int) * y) = ((x * BitVec.ofInt 32 y).toNat : Int) := by
  rw [← mul_u32, ← lit_bv32 y h0 h1]
theorem mul_u32_l (x : BitVec 32) (y : Int) (h0 : 0 ≤ y) (h1 : y < 4294967296) : IntKind.u32.wrap (y * (x.toNat : Int)) = ((BitVec.ofInt 32 y * x).toNat : Int) := by
  rw [← mul_u32, ← lit_bv32 y h0 h1]
theorem add_u64 (x y : BitVec 64) : IntKind.u64.wrap ((x.toNat : Int) + (y.toNat : Int)) = ((x + y).toNat : Int) := by
  have hx := x.isLt
  have hy := y.isLt
  rw [wrap_u64, BitVec.toNat_add]
  omega
theorem add_u64_r (x : BitVec 64) (y : Int) (h0 : 0 ≤ y) (h1 : y < 18446744073709551616) : IntKind.u64.wrap ((x.toNat : Int) + y) = ((x + BitVec.ofInt 64 y).toNat : Int) := by
  rw [← add_u64, ← lit_bv64 y h0 h1]
theorem add_u64_l (x : BitVec 64) (y : Int) (h0 : 0 ≤ y) (h1 : y < 18446744073709551616) : IntKind.u64.wrap (y + (x.toNat : Int)) = ((BitVec.ofInt 64 y + x).toNat : Int) := by
  rw [← add_u64, ← lit_bv64 y h0 h1]
theorem sub_u64 (x y : BitVec 64) : IntKind.u64.wrap ((x.toNat : Int) - (y.toNat : Int)) = ((x - y).toNat : Int) := by
  have hx := x.isLt
  have hy := y.isLt
  rw [wrap_u64, BitVec.toNat_sub]
  omega
theorem sub_u64_r (x : BitVec 64) (y : Int) (h0 : 0 ≤ y) (h1 : y < 18446744073709551616) : IntKind.u64.wrap ((x.toNat : Int) - y) = ((x - BitVec.ofInt 64 y).toNat : Int) := by
  rw [← sub_u64, ← lit_bv64 y h0 h1]
theorem sub_u64_l (x : BitVec 64) (y : Int) (h0 : 0 ≤ y) (h1 : y < 18446744073709551616) : IntKind.u64.wrap (y - (x.toNat : Int)) = ((BitVec.ofInt 64 y - x).toNat : Int) := by
  rw [← sub_u64, ← lit_bv64 y h0 h1]
theorem mul_u64 (x y : BitVec 64) : IntKind.u64.wrap ((x.toNat : Int) * (y.toNat : Int)) = ((x * y).toNat : Int) := by
  rw [wrap_u64, BitVec.toNat_mul, Int.natCast_emod, Int.natCast_mul]; rfl
theorem mul_u64_r (x : BitVec 64) (y : Int) (h0 : 0 ≤ y) (h1 : y < 18446744073709551616) : IntKind.u64.wrap ((x.toNat : Int) * y) = ((x * BitVec.ofInt 64 y).toNat : Int) := by
  rw [← mul_u64, ← lit_bv64 y h0 h1]
theorem mul_u64_l (x : BitVec 64) (y : Int) (h0 : 0 ≤ y) (h1 : y < 18446744073709551616) : IntKind.u64.wrap (y * (x.toNat : Int)) = ((BitVec.ofInt 64 y * x).toNat : Int) := by
  rw [← mul_u64, ← lit_bv64 y h0 h1]
/-! ### rows of elements, nil or not -/
/-- A slice of these elements, of one cell each. -/
def Sl (sz : Nat) (es : List AV) (a : AV) : Prop := (a = .nils ∧ es = []) ∨ ∃ t, a = .sl t sz es
section
variable {Ty : TypeId → Option TI} {T e : TypeId} {sz : Nat} {es : List AV} {a : AV}
theorem Sl.len (h : Sl sz es a) (hd : tdOf Ty T = .slice e) : alen Ty T a = some (.int .i64 es.length) := by
  rcases h with ⟨rfl, rfl⟩ | ⟨t, rfl⟩ <;> simp [alen, hd]
theorem Sl.addr (h : Sl sz es a) (hd : tdOf Ty T = .slice e) (hz : szOf Ty e = sz) (h0 : sz ≠ 0) {k : IntKind} {i : Int} {y : AV} (hi0 : 0 ≤ i) (hi : es[i.toNat]? = some y) : aindexAddr Ty T a (.int k i) = some (.fptr y.cells 0) := by
  rcases h with ⟨rfl, rfl⟩ | ⟨t, rfl⟩
  · simp at hi
  · simp [aindexAddr, hd, hz, h0, hi, hi0]
theorem detokL_flat : ∀ {es : List AV}, (∀ e ∈ es, detok e = e) → detokL es = es
  | [], _ => rfl
  | e :: es, h => by rw [detokL, h e (by simp), detokL_flat (fun x hx => h x (by simp [hx]))]
theorem Sl.detok (h : Sl sz es a) (hf : ∀ e ∈ es, Va.detok e = e) : Sl sz es (Va.detok a) := by
  rcases h with ⟨rfl, rfl⟩ | ⟨t, rfl⟩
  · exact .inl ⟨by simp [Va.detok], rfl⟩
  · exact .inr ⟨.no, by simp [Va.detok, detokL_flat hf]⟩
theorem Sl.sl (t : Tok) (sz : Nat) (es : List AV) : Sl sz es (.sl t sz es) := .inr ⟨t, rfl⟩
theorem Sl.nil (sz : Nat) : Sl sz [] .nils := .inl ⟨rfl, rfl⟩
end
/-- Bytes. -/
def bys (l : List (BitVec 8)) : List AV := l.map fun c => .int .u8 (c.toNat : Int)
def ints (k : IntKind) (l : List Int) : List AV := l.map fun c => .int k c
@[simp] theorem bys_length (l : List (BitVec 8)) : (bys l).length = l.length := by simp [bys]
@[simp] theorem ints_length (k : IntKind) (l : List Int) : (ints k l).length = l.length := by simp [ints]
theorem bys_get (l : List (BitVec 8)) (i : Nat) : (bys l)[i]? = l[i]?.map fun c => .int .u8 (c.toNat : Int) := by simp [bys]
theorem bys_append (l m : List (BitVec 8)) : bys (l ++ m) = bys l ++ bys m := by simp [bys]
end Go.Va
