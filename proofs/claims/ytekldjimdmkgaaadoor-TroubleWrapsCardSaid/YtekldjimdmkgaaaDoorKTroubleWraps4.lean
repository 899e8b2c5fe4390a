/- WRAPPING PUTS ONE LINK AHEAD: it changes neither the code of a fault nor where it is. (part 4 of 5) -/
import Derived.Test.YtekldjimdmkgaaaDoorKTroubleWraps3
import Derived.ChangeSame
import Derived.ChangeVars
import Derived.JoinedOf
import Derived.LaidHandle
import Derived.LaidLaws
import Derived.RowKit
import Derived.RowKitTokens
import Derived.Stop.Joined
import Derived.Test.YtekldjimdmkgaaaDoorRows
namespace Go.Proofs.YtekldjimdmkgaaaDoor
open Go Go.Va
set_option linter.unusedVariables false
set_option linter.unusedSimpArgs false
def pc (x : api_Step) : List (BitVec 8) := x.Op ++ ((if 0 ≤ x.At then [32#8] ++ digI x.At else []) ++ (if x.Code = 0 then [] else [32#8, 99#8, 111#8, 100#8, 101#8, 32#8] ++ digI x.Code))
def tp (l : List api_Step) : Nat → List (BitVec 8)
  | 0 => []
  | j + 1 => (tp l j ++ (if 0 < j then [58#8, 32#8] else [])) ++ match l[j]? with
    | some x => pc x
    | none => []
def okL (l : List api_Step) : Prop := l.length ≤ 100 ∧ ∀ x ∈ l, x.Op.length ≤ 1125899906842624 ∧ x.At < 9223372036854775808 ∧ x.Code < 9223372036854775808
theorem pc_len {x : api_Step} (h : x.Op.length ≤ 1125899906842624 ∧ x.At < 9223372036854775808 ∧ x.Code < 9223372036854775808) : (pc x).length ≤ 1125899906842700 := by
  have h1 := (digI_eq h.2.1).2.2
  have h2 := (digI_eq h.2.2).2.2
  unfold pc
  split <;> split <;> simp <;> omega
theorem tp_len {l : List api_Step} (h : okL l) : ∀ j, j ≤ l.length → (tp l j).length ≤ j * 1125899906842702
  | 0, _ => by simp [tp]
  | j + 1, hj => by
    have h1 := tp_len h j (by omega)
    have h2 := pc_len (h.2 l[j] (List.getElem_mem (by omega)))
    simp only [tp, List.getElem?_eq_getElem (show j < l.length by omega), List.length_append]
    split <;> simp <;> omega
theorem textB {l : List api_Step} (h : okL l) (j : Nat) (hj : j < l.length) : trouble_Text_b0 l (l.length : Int) (tp l j) (j : Int) = some (.inl (tp l (j + 1), ((j + 1 : Nat) : Int))) := by
  have hb := tp_len h j (by omega)
  have hx := h.2 l[j] (List.getElem_mem hj)
  have d1 := digI_eq hx.2.1
  have d2 := digI_eq hx.2.2
  have hl := h.1
  unfold trouble_Text_b0
  simp only [lt_eq]
  rw [if_pos (decide_eq_true (by omega)), ix_nat hj, Option.bind_some]
  have e1 : (if decide ((j : Int) > 0) = true then (cat (tp l j) [58#8, 32#8]).bind fun v34 => some v34 else some (tp l j)) = some (tp l j ++ (if 0 < j then [58#8, 32#8] else [])) := by
    by_cases h0 : 0 < j
    · rw [if_pos (decide_eq_true (by omega)), cat_eq (by simp; omega), if_pos h0]; rfl
    · rw [if_neg (by simp; omega), if_neg h0, List.append_nil]
  rw [e1, Option.bind_some]
  have hq : (tp l j ++ (if 0 < j then [58#8, 32#8] else [])).length ≤ (tp l j).length + 2 := by split <;> simp
  generalize hqq : tp l j ++ (if 0 < j then [58#8, 32#8] else []) = q at hq
  rw [cat_eq (by omega), Option.bind_some]
  have e2 : (if decide (l[j].At ≥ 0) = true then (trouble_digits l[j].At).bind fun v46 => (cat [32#8] v46).bind fun v48 => (cat (q ++ l[j].Op) v48).bind fun v50 => some v50 else some (q ++ l[j].Op)) = some (q ++ l[j].Op ++ (if 0 ≤ l[j].At then [32#8] ++ digI l[j].At else [])) := by
    by_cases h0 : 0 ≤ l[j].At
    · rw [if_pos (decide_eq_true h0), d1.1, Option.bind_some, cat_eq (by simp; omega), Option.bind_some, cat_eq (by simp; omega), if_pos h0]; rfl
    · rw [if_neg (by simpa using h0), if_neg h0, List.append_nil]
  rw [e2, Option.bind_some]
  have e3 : tp l (j + 1) = q ++ pc l[j] := by
    simp only [tp, List.getElem?_eq_getElem hj, hqq]
  have hr : (q ++ l[j].Op ++ (if 0 ≤ l[j].At then [32#8] ++ digI l[j].At else [])).length ≤ q.length + l[j].Op.length + 22 := by split <;> simp <;> omega
  rw [e3]
  unfold pc
  by_cases hc : l[j].Code = 0
  · rw [if_neg (by simp [hc]), if_pos hc, w64_nat (by omega)]
    simp only [List.append_nil, List.append_assoc]
  · rw [if_pos (by simp [hc]), if_neg hc, d2.1, Option.bind_some, cat_eq (by simp; omega), Option.bind_some, cat_eq (by simp only [List.length_append, List.length_cons, List.length_nil] at hr ⊢; omega), Option.bind_some, w64_nat (by omega)]
    simp only [List.append_assoc]
theorem textFB {l : List api_Step} (h : okL l) (j : Nat) (hj : j < l.length) : butteryref01_Text_b0 l (tp l j) (j : Int) = some (.inl (tp l (j + 1), ((j + 1 : Nat) : Int))) := by
  have hb := tp_len h j (by omega)
  have hx := h.2 l[j] (List.getElem_mem hj)
  have d1 := digI_eq hx.2.1
  have d2 := digI_eq hx.2.2
  have hl := h.1
  unfold butteryref01_Text_b0
  simp only [lt_eq]
  rw [if_pos (decide_eq_true (by omega)), ix_nat hj]
  simp only [Option.bind_some]
  have e1 : (if decide ((j : Int) > 0) = true then (cat (tp l j) [58#8, 32#8]).bind fun v34 => some v34 else some (tp l j)) = some (tp l j ++ (if 0 < j then [58#8, 32#8] else [])) := by
    by_cases h0 : 0 < j
    · rw [if_pos (decide_eq_true (by omega)), cat_eq (by simp; omega), if_pos h0]; rfl
    · rw [if_neg (by simp; omega), if_neg h0, List.append_nil]
  rw [e1, Option.bind_some]
  have hq : (tp l j ++ (if 0 < j then [58#8, 32#8] else [])).length ≤ (tp l j).length + 2 := by split <;> simp
  generalize hqq : tp l j ++ (if 0 < j then [58#8, 32#8] else []) = q at hq
  rw [cat_eq (by omega), Option.bind_some]
  have e2 : (if decide (l[j].At ≥ 0) = true then (cat (q ++ l[j].Op) [32#8]).bind fun v41 => (butteryref01_Digits l[j].At).bind fun v45 => (cat v41 v45).bind fun v47 => some v47 else some (q ++ l[j].Op)) = some (q ++ l[j].Op ++ (if 0 ≤ l[j].At then [32#8] ++ digI l[j].At else [])) := by
    by_cases h0 : 0 ≤ l[j].At
    · rw [if_pos (decide_eq_true h0), cat_eq (by simp; omega), Option.bind_some, d1.2.1, Option.bind_some, cat_eq (by simp; omega), if_pos h0]; simp
    · rw [if_neg (by simpa using h0), if_neg h0, List.append_nil]
  rw [e2, Option.bind_some]
  have e3 : tp l (j + 1) = q ++ pc l[j] := by
    simp only [tp, List.getElem?_eq_getElem hj, hqq]
  have hr : (q ++ l[j].Op ++ (if 0 ≤ l[j].At then [32#8] ++ digI l[j].At else [])).length ≤ q.length + l[j].Op.length + 22 := by split <;> simp <;> omega
  rw [e3]
  unfold pc
  by_cases hc : l[j].Code = 0
  · rw [if_neg (by simp [hc]), if_pos hc, w64_nat (by omega)]
    simp only [List.append_nil, List.append_assoc]
  · rw [if_pos (by simp [hc]), if_neg hc, cat_eq (by simp only [List.length_append, List.length_cons, List.length_nil] at hr ⊢; omega), Option.bind_some, d2.2.1, Option.bind_some, cat_eq (by simp only [List.length_append, List.length_cons, List.length_nil] at hr ⊢; omega), Option.bind_some, w64_nat (by omega)]
    simp only [List.append_assoc]
theorem text_eq {e : Err} (h : okL (lnk e)) : trouble_Text e = some (tp (lnk e) (lnk e).length) ∧ butteryref01_Text (lnk e) = some (tp (lnk e) (lnk e).length) := by
  have hl := h.1
  constructor
  · unfold trouble_Text trouble_Text_l0
    rw [chain_eq (by omega), Option.bind_some]
    simp only [lt_eq]
    have key := loopO_up (body := fun s => trouble_Text_b0 (lnk e) ((lnk e).length : Int) s.1 s.2) (fun j => (tp (lnk e) j, (j : Int))) (lnk e).length (x := tp (lnk e) (lnk e).length) (fun j hj => textB h j hj) (by
      unfold trouble_Text_b0
      simp only [lt_eq]
      rw [if_neg (by simp)])
    rw [show ((([] : List (BitVec 8)), (0 : Int))) = (tp (lnk e) 0, ((0 : Nat) : Int)) from rfl, key]
    rfl
  · unfold butteryref01_Text butteryref01_Text_l0
    have key := loopO_up (body := fun s => butteryref01_Text_b0 (lnk e) s.1 s.2) (fun j => (tp (lnk e) j, (j : Int))) (lnk e).length (x := tp (lnk e) (lnk e).length) (fun j hj => textFB h j hj) (by
      unfold butteryref01_Text_b0
      simp only [lt_eq]
      rw [if_neg (by simp)])
    rw [show ((([] : List (BitVec 8)), (0 : Int))) = (tp (lnk e) 0, ((0 : Nat) : Int)) from rfl, key]
    rfl
theorem works01 : butterylaw01_works = some true := by
  unfold butterylaw01_works
  have e1 : trouble_New [112#8, 97#8, 103#8, 101#8] 7 8 = some (.fault [112#8, 97#8, 103#8, 101#8] 7 8 .nil) := by simp [trouble_New, lt_eq]
  have e2 : trouble_New [120#8] 1 0 = some .nil := by simp [trouble_New, lt_eq]
  let e : Err := .fault [114#8, 101#8, 97#8, 100#8] 3 0 (.fault [112#8, 97#8, 103#8, 101#8] 7 8 .nil)
  have e3 : trouble_Wrap [114#8, 101#8, 97#8, 100#8] 3 (.fault [112#8, 97#8, 103#8, 101#8] 7 8 .nil) = some e := by rw [wrap1_eq]; rfl
  have hl : (lnk e).length = 2 := rfl
  have hw := where_eq (e := e) (by omega)
  have hok : okL (lnk e) := ⟨by omega, fun x hx => by
    have : x = ⟨[114#8, 101#8, 97#8, 100#8], 3, 0⟩ ∨ x = ⟨[112#8, 97#8, 103#8, 101#8], 7, 8⟩ := by simpa [lnk, e] using hx
    rcases this with rfl | rfl <;> decide⟩
  have ht := (text_eq hok).1
  have hc := chain_eq (e := e) (by omega)
  have hd : digs 3 = [51#8] ∧ digs 7 = [55#8] ∧ digs 8 = [56#8] := by
    refine ⟨?_, ?_, ?_⟩ <;> (rw [digs, if_pos (by omega)]; rfl)
  have htv : tp (lnk e) (lnk e).length = [114#8, 101#8, 97#8, 100#8, 32#8, 51#8, 58#8, 32#8, 112#8, 97#8, 103#8, 101#8, 32#8, 55#8, 32#8, 99#8, 111#8, 100#8, 101#8, 32#8, 56#8] := by
    have d3 : digI 3 = [51#8] := hd.1
    have d7 : digI 7 = [55#8] := hd.2.1
    have d8 : digI 8 = [56#8] := hd.2.2
    simp [tp, lnk, e, pc, d3, d7, d8]
  rw [htv] at ht
  rw [e1, Option.bind_some, e3, Option.bind_some, hw, Option.bind_some]
  simp only [trouble_Of, trouble_Has, Option.bind_some, lt_eq]
  rw [ht, Option.bind_some, e2, Option.bind_some, hc, Option.bind_some]
  simp [codeOf, hasE, inAt, lnk, e, Err.isNil]
end Go.Proofs.YtekldjimdmkgaaaDoor
namespace Go.Proofs.YtekldjimdmkgaaaDoor
open Go Go.Va
set_option linter.unusedVariables false
set_option linter.unusedSimpArgs false
theorem TroubleWraps_pure (c : Int) (l : List api_Step) (o : List (BitVec 8)) (a : Int) (_ : wfI .i64 c) (_ : wfL wf_api_Step l) (_ : wfS o) (_ : wfI .i64 a) : butterylaw01_TroubleWraps c l o a = some true := by
  obtain ⟨e, h1, h2, h3, h4, h5⟩ := made_eq c l
  unfold butterylaw01_TroubleWraps
  rw [h1, Option.bind_some]
  simp only []
  rw [wrap1_eq, Option.bind_some]
  simp only [lt_eq]
  by_cases hc : c = 0
  · rw [if_pos (by simp [hc])]
    have hn : e.isNil = true := by rw [h4]; simp [hc]
    have : (wrp o a e).isNil = true := by unfold wrp; rw [if_pos hn]; rfl
    rw [if_pos this, works01]
    rfl
  · rw [if_neg (by simp [hc])]
    have hn : e.isNil = false := by rw [h4]; simp [hc]
    have hw : wrp o a e = .fault o a 0 e := by unfold wrp; rw [if_neg (by rw [hn]; simp)]
    have hl : lnk (.fault o a 0 e) = ⟨o, a, 0⟩ :: lnk e := rfl
    have hne : lnk e ≠ [] := fun h => by
      have := nil_lnk e
      rw [h, hn] at this
      simp at this
    rw [hw, chain_eq (by rw [hl]; simp; omega), Option.bind_some, where_eq (by omega), Option.bind_some, where_eq (by rw [hl]; simp; omega), Option.bind_some, hl, w64_eq (by omega) (by omega), if_pos (by simp), show ix ((⟨o, a, 0⟩ : api_Step) :: lnk e) (0 : Int) = some ⟨o, a, 0⟩ from rfl, Option.bind_some, if_pos (by simp)]
    have hnf : (Err.fault o a 0 e).isNil = false := rfl
    simp only [trouble_Of, Option.bind_some, hn, hnf, Bool.not_false, if_true]
    have hcode : codeOf (.fault o a 0 e) = c := by simp [codeOf, h3]
    have hat : inAt e = inAt (.fault o a 0 e) := by
      unfold inAt
      rw [hl, List.getLast?_cons]
      cases hg : (lnk e).getLast? with
      | none => exact absurd (List.getLast?_eq_none_iff.1 hg) hne
      | some x => rfl
    rw [hcode, if_pos (by simp), if_pos (by rw [hat]; simp), works01]
    rfl
end Go.Proofs.YtekldjimdmkgaaaDoor
namespace Go.Proofs.YtekldjimdmkgaaaDoor
open Go.ChangeShapes Go.WideShapes Go.RowKit
theorem own : ownKnob Tryd.prog.godebug = none := by kernel_rfl
theorem laidEt : Tryd.prog.globalNamed "errors.errorType" = some 0 := by kernel_rfl
theorem laidRt : (Tryd.prog.cutTypes.find? (·.1 == "internal/reflectlite.rtype")).map (·.2) = some 79 := by kernel_rfl
theorem laidRow : ((List.range 124).filter fun t => Tryd.prog.rowNamed t [101, 114, 114, 111, 114]) = [25] := by kernel_rfl
theorem laidSize : Tryd.prog.types.size = 124 := by kernel_rfl
def laidL {H : Type} : List (String × DataW H) := [("errors.errorType", Rows.laid_errors_errorType)]
theorem handle_of_laid {W : World} (h : laidMetH Tryd.prog laidL W) : W.cell? ⟨0, 0, none⟩ = some (.iface 79 (.agg #[.pointer (some ⟨1, 25, none⟩)])) := by
  have h' : laidMet Tryd.prog [] W ∧ handlesMet Tryd.prog laidL W := h
  obtain ⟨name, u, ty, e1, e2, e3, e4, e5⟩ := h'.2 _ (List.mem_singleton.2 rfl)
  have en : name = [101, 114, 114, 111, 114] := (Option.some.inj e1).symm
  subst en
  obtain rfl := Option.some.inj (laidRt.symm.trans e2)
  have hm : ty ∈ (List.range 124).filter fun t => Tryd.prog.rowNamed t [101, 114, 114, 111, 114] := List.mem_filter.2 ⟨List.mem_range.2 (by rw [← laidSize]; exact e3), e4⟩
  rw [laidRow] at hm
  obtain rfl := List.mem_singleton.1 hm
  have hh : typeHandle Tryd.prog 25 = .pointer (some ⟨1, 25, none⟩) := by kernel_rfl
  rw [hh] at e5
  simpa using World.var?_cell laidEt e5 0
/-- A world that meets the condition. -/
noncomputable def laidWorld (os : Os) : World :=
  let w0 := World.holding Tryd.prog os ⟨#[], #[], []⟩
  { w0 with heap := w0.heap.modify 0 fun
      | .cells _ t frozen => .cells #[.iface 79 (.agg #[.pointer (some ⟨1, 25, none⟩)])] t frozen
      | o => o }
theorem laidWorld_met (os : Os) (args : Array Value) : laidMetH Tryd.prog laidL ((laidWorld os).forCall (fun _ _ => 0) ⟨#[], args, []⟩).memory :=
  laidMetH_of_parts (laidMet_nil _ _) (by kernel_rfl)
theorem gls_met {W : World} (h : laidMetH Tryd.prog laidL W) : ∀ p ∈ gls, W.cell? p.1 = some p.2 := by
  intro p hp
  obtain rfl := List.mem_singleton.1 hp
  exact handle_of_laid h
theorem laidOut : laidOutB Tryd.prog = true := by kernel_rfl
end Go.Proofs.YtekldjimdmkgaaaDoor
