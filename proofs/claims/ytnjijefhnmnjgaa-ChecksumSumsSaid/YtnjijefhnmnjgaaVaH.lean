/- Cuts of slices and strings; literals; make. -/
import Derived.Test.YtnjijefhnmnjgaaVaG
import Derived.Lib.ConvBytes
import Derived.Laws.BytesString
import Derived.Laws.MakeOwn
import Derived.Laws.Tables
import Derived.Laws.Slices
namespace Go.Va
open Go Go.RowKit
set_option linter.unusedVariables false
set_option linter.unusedSimpArgs false
section
variable {P : Program} {Ty : TypeId → Option TI} {w0 : World} {G : Ghost} {w : World} {σ : St}

/-- A bound of a cut. -/
def abnd (d : Nat) : Option AV → Option Nat
  | none => some d
  | some (.int _ i) => if 0 ≤ i then some i.toNat else none
  | some _ => none
inductive RelO (G : Ghost) : Option Value → Option AV → Prop where
  | none : RelO G .none .none
  | some {v : Value} {a : AV} (h : Rel G v a) : RelO G (.some v) (.some a)
theorem bounds_sound (b : Bool) (len cap l h : Nat) {vlo vhi : Option Value} {lo hi : Option AV} (hlo : RelO G vlo lo) (hhi : RelO G vhi hi) (h1 : abnd 0 lo = some l) (h2 : abnd len hi = some h) (hle : l ≤ h) (hc : h ≤ cap) :
    (Instr.sliceBounds b len cap vlo vhi none).run P w = .ok (l, h, cap) w := by
  have key : ∀ (a : AV) (v : Value) (d n : Nat), Rel G v a → abnd d (some a) = some n → ∃ k, v = .int k (n : Int) := by
    intro a v d n hr ha
    unfold abnd at ha
    split at ha
    · cases ‹some a = none›
    · rename_i k i he
      cases he
      split at ha
      · rename_i h0
        simp at ha
        cases hr
        exact ⟨k, by rw [← ha, Int.toNat_of_nonneg h0]⟩
      · cases ha
    · cases ha
  cases hlo with
  | none =>
    simp [abnd] at h1
    subst h1
    cases hhi with
    | none => simp [abnd] at h2; subst h2; simp [Instr.sliceBounds]
    | some hr =>
      obtain ⟨k, rfl⟩ := key _ _ _ _ hr h2
      simp [Instr.sliceBounds, run_sliceBound _ _ _ _ _ (Int.natCast_nonneg h) (by omega : (h : Int) ≤ cap)]
  | some hl =>
    obtain ⟨k, rfl⟩ := key _ _ _ _ hl h1
    cases hhi with
    | none =>
      simp [abnd] at h2; subst h2
      simp [Instr.sliceBounds, run_sliceBound _ _ _ _ _ (Int.natCast_nonneg l) (by omega : (l : Int) ≤ len)]
    | some hr =>
      obtain ⟨k', rfl⟩ := key _ _ _ _ hr h2
      simp [Instr.sliceBounds, run_sliceBound _ _ _ _ _ (Int.natCast_nonneg h) (by omega : (h : Int) ≤ cap), run_sliceBound _ _ _ _ _ (Int.natCast_nonneg l) (by omega : (l : Int) ≤ h)]

def aslice (Ty : TypeId → Option TI) (T : TypeId) (x : AV) (lo hi : Option AV) (σ : St) : Option AV :=
  match tdOf Ty T, x with
  | .slice e, .sl t sz es => match abnd 0 lo, abnd es.length hi with
    | some l, some h => if l ≤ h ∧ h ≤ es.length ∧ sz = szOf Ty e ∧ sz ≠ 0 then some (.sl (if h = es.length then t else .no) sz ((es.take h).drop l)) else none
    | _, _ => none
  | .slice e, .nils => match abnd 0 lo, abnd 0 hi with
    | some 0, some 0 => if szOf Ty e ≠ 0 then some .nils else none
    | _, _ => none
  | .slice e, .msl id off len => match abnd 0 lo, abnd len hi with
    | some l, some h => if l ≤ h ∧ h ≤ len ∧ (l = 0 ∨ l < h) ∧ szOf Ty e ≠ 0 then some (.msl id (off + l * szOf Ty e) (h - l)) else none
    | _, _ => none
  | .arr n e, .ref id off => match abnd 0 lo, abnd n hi with
    | some l, some h => if l ≤ h ∧ h ≤ n ∧ (l = 0 ∨ l < h) ∧ szOf Ty e ≠ 0 then some (.msl id (off + l * szOf Ty e) (h - l)) else none
    | _, _ => none
  | .str, .str s => match abnd 0 lo, abnd s.size hi with
    | some l, some h => if l ≤ h ∧ h ≤ s.size then some (.str (s.extract l h)) else none
    | _, _ => none
  | _, _ => none
theorem sliceAt_other {T : TypeId} {d : TypeDesc} (hu : P.underlying T = some d) (hn : ∀ n e, d ≠ .array n e) (x : Value) (lo hi mx : Option Value) : (Instr.sliceAt T x lo hi mx).run P w = (Instr.slice T x lo hi mx).run P w := by
  unfold Instr.sliceAt
  simp only [Sem.run_bind, run_underlying hu, Result.andThen_ok]
theorem aslice_sound (hT : TyOk P Ty) {T : TypeId} {x : AV} {vx : Value} {vlo vhi : Option Value} {lo hi : Option AV} (hx : Rel G vx x) (hlo : RelO G vlo lo) (hhi : RelO G vhi hi) {a : AV} (h : aslice Ty T x lo hi σ = some a) :
    ∃ v, (Instr.sliceAt T vx vlo vhi none).run P w = .ok v w ∧ Rel G v a := by
  unfold aslice at h
  split at h
  · rename_i e t sz es hd
    split at h
    case h_2 => cases h
    rename_i l hh e1 e2
    split at h
    case isFalse => cases h
    rename_i hc
    obtain ⟨c1, c2, rfl, c4⟩ := hc
    simp at h
    subst h
    have hu := tdOf_ok hT hd (by simp)
    have hlen : ((es.take hh).drop l).length = hh - l := by simp; omega
    obtain ⟨A, c, news, hR⟩ := hx.row
    have hcl := hR.le
    have hrun : (Instr.sliceAt T vx vlo vhi none).run P w = .ok (.slice (if c = l then A else A.map (·.add (l * szOf Ty e))) (hh - l) (c - l)) w := by
      rw [sliceAt_other hu (by simp), hR.val]
      simp [Instr.slice, run_underlying hu, bounds_sound true es.length c l hh hlo hhi e1 e2 c1 (by omega), szOf_run (P := P) hT c4 w]
    refine ⟨_, hrun, ?_⟩
    rw [← hlen]
    cases hx with
    | sl0 A' c' t sz hm ht =>
      have hv := hR.val
      injection hv with e3 e4 e5
      subst e3; subst e5
      have h0 : hh = 0 := by simpa using c2
      subst h0
      obtain rfl : l = 0 := by omega
      have : (if c' = 0 then A' else A'.map (·.add (0 * szOf Ty e))) = A' := by
        split
        · rfl
        · cases A' <;> simp [Addr.add]
      rw [this]
      simpa using Rel.sl0 A' c' t (szOf Ty e) hm ht
    | sl b o c' t sz es val hc hm hz hf hr ht =>
      have hv := hR.val
      injection hv with e3 e4 e5
      subst e3; subst e5
      by_cases hcl' : c' = l
      · subst hcl'
        have : hh = es.length := by omega
        have he : (es.take hh).drop c' = [] := List.eq_nil_of_length_eq_zero (by rw [hlen]; omega)
        rw [if_pos rfl, he]
        have h0 : c' - c' = 0 := by omega
        rw [h0]
        exact .sl0 _ 0 _ _ (Nat.zero_le _) (.inr ⟨rfl, by split; exact ht.in_; trivial⟩)
      · rw [if_neg hcl']
        simp only [Option.map_some, Addr.add_lit]
        have hget : ∀ (i : Nat) (y : AV), ((es.take hh).drop l)[i]? = some y → es[i + l]? = some y := fun i y hy => by
          rw [List.getElem?_drop, List.getElem?_take] at hy
          split at hy
          · rw [Nat.add_comm]; exact hy
          · cases hy
        refine .sl b (o + l * szOf Ty e) (c' - l) _ (szOf Ty e) _ (fun i j => val (i + l) j) (by rw [hlen]; omega) (by omega) (fun y hy => hz y (List.mem_of_mem_take (List.mem_of_mem_drop hy)))
          (fun i y j a h1 h2 => ?_) (fun i y j a h1 h2 => hr (i + l) y j a (hget i y h1) h2) ?_
        · have := hf (i + l) y j a (hget i y h1) h2
          rw [Nat.add_mul] at this
          rw [← this]
          congr 1
          omega
        · rw [hlen]
          split
          · rename_i he
            cases t with
            | no => trivial
            | full => simp only [TokOk] at ht ⊢; exact ⟨by omega, ht.2⟩
            | own t =>
              simp only [TokOk] at ht ⊢
              refine ⟨ht.1, ?_⟩
              rcases ht.2 with ht | ht
              · exact .inl (by omega)
              · refine .inr ?_
                rw [ht]
                have a1 : es.length * szOf Ty e = l * szOf Ty e + (hh - l) * szOf Ty e := by rw [← Nat.add_mul, he]; congr 1; omega
                have a2 : c' * szOf Ty e = l * szOf Ty e + (c' - l) * szOf Ty e := by rw [← Nat.add_mul]; congr 1; omega
                rw [a1, a2, Nat.add_assoc, Nat.add_assoc]
          · trivial
  · rename_i e hd
    split at h
    case h_2 => cases h
    rename_i e1 e2
    split at h
    case isFalse => cases h
    rename_i hs
    simp at h
    subst h
    cases hx
    have hu := tdOf_ok hT hd (by simp)
    refine ⟨.slice none 0 0, ?_, .nils⟩
    rw [sliceAt_other hu (by simp)]
    simp [Instr.slice, run_underlying hu, bounds_sound true 0 0 0 0 hlo hhi e1 e2 (Nat.le_refl _) (Nat.le_refl _), szOf_run (P := P) hT hs w]
  · rename_i e id off len hd
    split at h
    case h_2 => cases h
    rename_i l hh e1 e2
    split at h
    case isFalse => cases h
    rename_i hc
    obtain ⟨c1, c2, c3, c4⟩ := hc
    simp at h
    subst h
    cases hx
    rename_i c b hl hlec
    have hu := tdOf_ok hT hd (by simp)
    refine ⟨.slice (some ⟨b, off + l * szOf Ty e, none⟩) (hh - l) (c - l), ?_, .msl _ _ _ _ b (by omega) hl⟩
    rw [sliceAt_other hu (by simp)]
    have hx : (if c = l then some (⟨b, off, none⟩ : Addr) else some ⟨b, off + l * szOf Ty e, none⟩) = some ⟨b, off + l * szOf Ty e, none⟩ := by
      split
      · rcases c3 with rfl | c3
        · simp
        · omega
      · rfl
    simp [Instr.slice, run_underlying hu, bounds_sound true len c l hh hlo hhi e1 e2 c1 (by omega), szOf_run (P := P) hT c4 w, Addr.add_lit, hx]
  · rename_i n e id off hd
    split at h
    case h_2 => cases h
    rename_i l hh e1 e2
    split at h
    case isFalse => cases h
    rename_i hc
    obtain ⟨c1, c2, c3, c4⟩ := hc
    simp at h
    subst h
    cases hx
    rename_i b hl
    have hu := tdOf_ok hT hd (by simp)
    refine ⟨.slice (some ⟨b, off + l * szOf Ty e, none⟩) (hh - l) (n - l), ?_, .msl _ _ _ _ b (by omega) hl⟩
    have hx : (if n = l then (⟨b, off, none⟩ : Addr) else ⟨b, off + l * szOf Ty e, none⟩) = ⟨b, off + l * szOf Ty e, none⟩ := by
      split
      · rcases c3 with rfl | c3
        · simp
        · omega
      · rfl
    simp [Instr.sliceAt, run_underlying hu, Instr.sureAddr, bounds_sound false n n l hh hlo hhi e1 e2 c1 c2, szOf_run (P := P) hT c4 w, Addr.add_lit, hx]
  · rename_i s hd
    split at h
    case h_2 => cases h
    rename_i l hh e1 e2
    split at h
    case isFalse => cases h
    rename_i hc
    obtain ⟨c1, c2⟩ := hc
    simp at h
    subst h
    cases hx
    have hu := tdOf_ok hT hd (by simp)
    refine ⟨_, ?_, .str _⟩
    rw [sliceAt_other hu (by simp)]
    simp [Instr.slice, run_underlying hu, bounds_sound false s.size s.size l hh hlo hhi e1 e2 c1 c2]
  · cases h
end
end Go.Va
