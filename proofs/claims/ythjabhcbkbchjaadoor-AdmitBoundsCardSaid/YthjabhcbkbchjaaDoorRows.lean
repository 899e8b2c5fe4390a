/-
  NARROWER THAN 'FOR EVERY INPUT', by the rows' own cells (each row's printed sentence says how): SlabClasses: laid · SlabClose: laid · SlabBounds: laid · AdmitDoes: laid · AdmitFirst: laid · AdmitBounds: laid · SlabDoes: laid.
  DERIVED. THE GIVEN ROWS OF THIS SEAT. 7 by the template 'for every input the law returns true; each argument reads behind the call as it read before'; 0 by the template 'total and deterministic' (their statements: YthjabhcbkbchjaaDoorTotals.lean).
  GIVEN WITH THE SEED: the statements are not yours to turn. If you find one false, say at which input.
  Laid BY PROGRAM, IN A SANDBOX (cutbox-rows.mjs): the forced cells as the released guide's own fill.sh prints them over the translation d4ee779b8a496f0b… (all of the seat's roots in one cut). By AI agents, Wed Nov 11 2026. No macro, syntax, notation, axiom, sorry.
-/
import Derived.Test.YthjabhcbkbchjaaDoorChecked
import GoSem.Claim
import GoSem.ClaimJoined
import GoSem.ClaimMapViews
import Derived.JoinedTies
import Derived.KernelRfl
namespace Go.Proofs.YthjabhcbkbchjaaDoor
/- THE CELL 'sum', in the pinned program and in every row, IS THE sha256 OF THE DUMP (.gsa) THAT YthjabhcbkbchjaaDoorProg.lean LOADS. Nothing in Lean hashes anything: it is a label: what it is worth is what the hold of that sum in a sandbox is worth. -/
noncomputable def Tryd.pinned : Pinned := { name := "ythjabhcbkbchjaadoor", sum := "d4ee779b8a496f0bfc3a8a84eabc58d27a07828b81a9f721ecd76a00ffeab300", checked := Tryd.checked }
namespace Rows
def none {H : Type} : Left H := { results := [], args := [] }

/- WHAT THE LISTED PACKAGE-LEVEL VARIABLES READ AS WHEN THE CALL BEGINS. Each datum BY PROGRAM (the guide's laid-datum.mjs) off the statement by which the dump's own 'gosem.cut.vars' lays the variable. In a bare row this is a premise. The card (YthjabhcbkbchjaaDoorCards.lean) ties it to the program's text. -/
def laid_errors_errorType {H : Type} : DataW H := .iface "internal/reflectlite.rtype" (.agg [.ptr (.lit (.string [101, 114, 114, 111, 114]))])

/-- 'butterylaw08.SlabClasses': WHATEVER THE INPUT: true; the input reads as it did. -/
def slabClassesSpec : ChangeSpec := { name := "slabClasses", fn := fun _ => fun
  | [d1, d2] => { results := [.lit (.bool true)], args := [d1, d2] }
  | _ => none }
def slabClassesRow : OpenClaim := { program := "ythjabhcbkbchjaadoor", sum := "d4ee779b8a496f0bfc3a8a84eabc58d27a07828b81a9f721ecd76a00ffeab300", func := "buttery/butterylaw08.SlabClasses", spec := "slabClasses", inPlace := ["internal/reflectlite.ValueOf", "(internal/reflectlite.Value).Type", "(internal/reflectlite.Value).IsNil", "internal/reflectlite.TypeOf", "(internal/reflectlite.Value).Elem", "(internal/reflectlite.Value).Set"], unfollowed := true, recurses := true, named := ["errors.errorType"], apart := false, laid := [("errors.errorType", laid_errors_errorType)] }
def SlabClassesSaid : Prop := slabClassesRow.holds Tryd.pinned (OpenSpec.ofChange slabClassesSpec)

/-- ITS FALSE NEIGHBOUR: 'it returns false'. Refute it at one input. -/
def slabClassesWrong : ChangeSpec := { name := "slabClasses", fn := fun _ => fun
  | [d1, d2] => { results := [.lit (.bool false)], args := [d1, d2] }
  | _ => none }
def SlabClassesWrongFalsely : Prop := slabClassesRow.holds Tryd.pinned (OpenSpec.ofChange slabClassesWrong)

/-- 'butterylaw08.SlabClose': WHATEVER THE INPUT: true; the input reads as it did. -/
def slabCloseSpec : ChangeSpec := { name := "slabClose", fn := fun _ => fun
  | [d] => { results := [.lit (.bool true)], args := [d] }
  | _ => none }
def slabCloseRow : OpenClaim := { program := "ythjabhcbkbchjaadoor", sum := "d4ee779b8a496f0bfc3a8a84eabc58d27a07828b81a9f721ecd76a00ffeab300", func := "buttery/butterylaw08.SlabClose", spec := "slabClose", inPlace := ["internal/reflectlite.ValueOf", "(internal/reflectlite.Value).Type", "(internal/reflectlite.Value).IsNil", "internal/reflectlite.TypeOf", "(internal/reflectlite.Value).Elem", "(internal/reflectlite.Value).Set"], unfollowed := true, recurses := true, named := ["errors.errorType"], apart := false, laid := [("errors.errorType", laid_errors_errorType)] }
def SlabCloseSaid : Prop := slabCloseRow.holds Tryd.pinned (OpenSpec.ofChange slabCloseSpec)

/-- ITS FALSE NEIGHBOUR: 'it returns false'. Refute it at one input. -/
def slabCloseWrong : ChangeSpec := { name := "slabClose", fn := fun _ => fun
  | [d] => { results := [.lit (.bool false)], args := [d] }
  | _ => none }
def SlabCloseWrongFalsely : Prop := slabCloseRow.holds Tryd.pinned (OpenSpec.ofChange slabCloseWrong)

/-- 'butterylaw08.SlabBounds': WHATEVER THE INPUT: true; the input reads as it did. -/
def slabBoundsSpec : ChangeSpec := { name := "slabBounds", fn := fun _ => fun
  | [d1, d2] => { results := [.lit (.bool true)], args := [d1, d2] }
  | _ => none }
def slabBoundsRow : OpenClaim := { program := "ythjabhcbkbchjaadoor", sum := "d4ee779b8a496f0bfc3a8a84eabc58d27a07828b81a9f721ecd76a00ffeab300", func := "buttery/butterylaw08.SlabBounds", spec := "slabBounds", inPlace := ["internal/reflectlite.ValueOf", "(internal/reflectlite.Value).Type", "(internal/reflectlite.Value).IsNil", "internal/reflectlite.TypeOf", "(internal/reflectlite.Value).Elem", "(internal/reflectlite.Value).Set"], unfollowed := true, recurses := true, named := ["errors.errorType"], apart := false, laid := [("errors.errorType", laid_errors_errorType)] }
def SlabBoundsSaid : Prop := slabBoundsRow.holds Tryd.pinned (OpenSpec.ofChange slabBoundsSpec)

/-- ITS FALSE NEIGHBOUR: 'it returns false'. Refute it at one input. -/
def slabBoundsWrong : ChangeSpec := { name := "slabBounds", fn := fun _ => fun
  | [d1, d2] => { results := [.lit (.bool false)], args := [d1, d2] }
  | _ => none }
def SlabBoundsWrongFalsely : Prop := slabBoundsRow.holds Tryd.pinned (OpenSpec.ofChange slabBoundsWrong)

/-- 'butterylaw18.AdmitDoes': WHATEVER THE INPUT: true; the input reads as it did. -/
def admitDoesSpec : ChangeSpec := { name := "admitDoes", fn := fun _ => fun
  | [d1, d2, d3] => { results := [.lit (.bool true)], args := [d1, d2, d3] }
  | _ => none }
def admitDoesRow : OpenClaim := { program := "ythjabhcbkbchjaadoor", sum := "d4ee779b8a496f0bfc3a8a84eabc58d27a07828b81a9f721ecd76a00ffeab300", func := "buttery/butterylaw18.AdmitDoes", spec := "admitDoes", inPlace := ["internal/reflectlite.ValueOf", "(internal/reflectlite.Value).Type", "(internal/reflectlite.Value).IsNil", "internal/reflectlite.TypeOf", "(internal/reflectlite.Value).Elem", "(internal/reflectlite.Value).Set"], unfollowed := true, recurses := true, named := ["errors.errorType"], apart := false, laid := [("errors.errorType", laid_errors_errorType)] }
def AdmitDoesSaid : Prop := admitDoesRow.holds Tryd.pinned (OpenSpec.ofChange admitDoesSpec)

/-- ITS FALSE NEIGHBOUR: 'it returns false'. Refute it at one input. -/
def admitDoesWrong : ChangeSpec := { name := "admitDoes", fn := fun _ => fun
  | [d1, d2, d3] => { results := [.lit (.bool false)], args := [d1, d2, d3] }
  | _ => none }
def AdmitDoesWrongFalsely : Prop := admitDoesRow.holds Tryd.pinned (OpenSpec.ofChange admitDoesWrong)

/-- 'butterylaw18.AdmitFirst': WHATEVER THE INPUT: true; the input reads as it did. -/
def admitFirstSpec : ChangeSpec := { name := "admitFirst", fn := fun _ => fun
  | [d1, d2, d3, d4, d5] => { results := [.lit (.bool true)], args := [d1, d2, d3, d4, d5] }
  | _ => none }
def admitFirstRow : OpenClaim := { program := "ythjabhcbkbchjaadoor", sum := "d4ee779b8a496f0bfc3a8a84eabc58d27a07828b81a9f721ecd76a00ffeab300", func := "buttery/butterylaw18.AdmitFirst", spec := "admitFirst", inPlace := ["internal/reflectlite.ValueOf", "(internal/reflectlite.Value).Type", "(internal/reflectlite.Value).IsNil", "internal/reflectlite.TypeOf", "(internal/reflectlite.Value).Elem", "(internal/reflectlite.Value).Set"], unfollowed := true, recurses := true, named := ["errors.errorType"], apart := false, laid := [("errors.errorType", laid_errors_errorType)] }
def AdmitFirstSaid : Prop := admitFirstRow.holds Tryd.pinned (OpenSpec.ofChange admitFirstSpec)

/-- ITS FALSE NEIGHBOUR: 'it returns false'. Refute it at one input. -/
def admitFirstWrong : ChangeSpec := { name := "admitFirst", fn := fun _ => fun
  | [d1, d2, d3, d4, d5] => { results := [.lit (.bool false)], args := [d1, d2, d3, d4, d5] }
  | _ => none }
def AdmitFirstWrongFalsely : Prop := admitFirstRow.holds Tryd.pinned (OpenSpec.ofChange admitFirstWrong)

/-- 'butterylaw18.AdmitBounds': WHATEVER THE INPUT: true; the input reads as it did. -/
def admitBoundsSpec : ChangeSpec := { name := "admitBounds", fn := fun _ => fun
  | [d1, d2, d3] => { results := [.lit (.bool true)], args := [d1, d2, d3] }
  | _ => none }
def admitBoundsRow : OpenClaim := { program := "ythjabhcbkbchjaadoor", sum := "d4ee779b8a496f0bfc3a8a84eabc58d27a07828b81a9f721ecd76a00ffeab300", func := "buttery/butterylaw18.AdmitBounds", spec := "admitBounds", inPlace := ["internal/reflectlite.ValueOf", "(internal/reflectlite.Value).Type", "(internal/reflectlite.Value).IsNil", "internal/reflectlite.TypeOf", "(internal/reflectlite.Value).Elem", "(internal/reflectlite.Value).Set"], unfollowed := true, recurses := true, named := ["errors.errorType"], apart := false, laid := [("errors.errorType", laid_errors_errorType)] }
def AdmitBoundsSaid : Prop := admitBoundsRow.holds Tryd.pinned (OpenSpec.ofChange admitBoundsSpec)

/-- ITS FALSE NEIGHBOUR: 'it returns false'. Refute it at one input. -/
def admitBoundsWrong : ChangeSpec := { name := "admitBounds", fn := fun _ => fun
  | [d1, d2, d3] => { results := [.lit (.bool false)], args := [d1, d2, d3] }
  | _ => none }
def AdmitBoundsWrongFalsely : Prop := admitBoundsRow.holds Tryd.pinned (OpenSpec.ofChange admitBoundsWrong)

/-- 'butterylaw08.SlabDoes': WHATEVER THE INPUT: true; the input reads as it did. -/
def slabDoesSpec : ChangeSpec := { name := "slabDoes", fn := fun _ => fun
  | [d1, d2, d3] => { results := [.lit (.bool true)], args := [d1, d2, d3] }
  | _ => none }
def slabDoesRow : OpenClaim := { program := "ythjabhcbkbchjaadoor", sum := "d4ee779b8a496f0bfc3a8a84eabc58d27a07828b81a9f721ecd76a00ffeab300", func := "buttery/butterylaw08.SlabDoes", spec := "slabDoes", inPlace := ["internal/reflectlite.ValueOf", "(internal/reflectlite.Value).Type", "(internal/reflectlite.Value).IsNil", "internal/reflectlite.TypeOf", "(internal/reflectlite.Value).Elem", "(internal/reflectlite.Value).Set"], unfollowed := true, recurses := true, named := ["errors.errorType"], apart := false, laid := [("errors.errorType", laid_errors_errorType)] }
def SlabDoesSaid : Prop := slabDoesRow.holds Tryd.pinned (OpenSpec.ofChange slabDoesSpec)

/-- ITS FALSE NEIGHBOUR: 'it returns false'. Refute it at one input. -/
def slabDoesWrong : ChangeSpec := { name := "slabDoes", fn := fun _ => fun
  | [d1, d2, d3] => { results := [.lit (.bool false)], args := [d1, d2, d3] }
  | _ => none }
def SlabDoesWrongFalsely : Prop := slabDoesRow.holds Tryd.pinned (OpenSpec.ofChange slabDoesWrong)

/- THE SECOND FORM. 'bulk': how many values and letters a reading holds, each counted each time it is reached (what is shared counts as often as it is met; a slice's spare places count too). A statement '..UptoSaid' is the law's where the arguments, and the package variables that the reading takes, are together of bulk at most 1048576: NARROWER than '..Said'. Prove '..Said' where nothing that the law and all that it calls make is longer than what came in: it says more and counts as full. Else prove '..UptoSaid'. A law counts once. -/
mutual
def uptoBulk {H : Type} : DataW H → Nat
  | .lit (.string bytes) => bytes.length + 1
  | .lit _ => 1
  | .nil => 1
  | .ptr d => uptoBulk d + 1
  | .slice elems spare => uptoBulkAll elems + uptoBulkAll spare + 1
  | .agg parts => uptoBulkAll parts + 1
  | .iface _ d => uptoBulk d + 1
  | .map entries => uptoBulkEntries entries + 1
  | .held _ => 1
def uptoBulkAll {H : Type} : List (DataW H) → Nat
  | [] => 0
  | d :: r => uptoBulk d + uptoBulkAll r
def uptoBulkEntries {H : Type} : List (Lit × DataW H) → Nat
  | [] => 0
  | x :: r => uptoBulkEntry x + uptoBulkEntries r
def uptoBulkEntry {H : Type} : Lit × DataW H → Nat
  | (.string bytes, d) => bytes.length + uptoBulk d + 1
  | (_, d) => uptoBulk d + 1
 end
def uptoSmall : (H : Type) → List (DataW H) → Bool := fun _ ds => decide (uptoBulkAll ds ≤ 1048576)
def OpenSpec.upto (s : _root_.Go.ChangeSpec) : _root_.Go.OpenSpec := { _root_.Go.OpenSpec.ofChange s with cond := some uptoSmall }

/-- 'butterylaw08.SlabClasses', WHERE WHAT IT READS IS OF BULK AT MOST 1048576: true; the input reads as it did. -/
def slabClassesUptoRow : OpenClaim := { program := "ythjabhcbkbchjaadoor", sum := "d4ee779b8a496f0bfc3a8a84eabc58d27a07828b81a9f721ecd76a00ffeab300", func := "buttery/butterylaw08.SlabClasses", spec := "slabClasses", inPlace := ["internal/reflectlite.ValueOf", "(internal/reflectlite.Value).Type", "(internal/reflectlite.Value).IsNil", "internal/reflectlite.TypeOf", "(internal/reflectlite.Value).Elem", "(internal/reflectlite.Value).Set"], unfollowed := true, recurses := true, named := ["errors.errorType"], apart := false, laid := [("errors.errorType", laid_errors_errorType)], narrowed := true }
def SlabClassesUptoSaid : Prop := slabClassesUptoRow.holds Tryd.pinned (OpenSpec.upto slabClassesSpec)

/-- 'butterylaw08.SlabClose', WHERE WHAT IT READS IS OF BULK AT MOST 1048576: true; the input reads as it did. -/
def slabCloseUptoRow : OpenClaim := { program := "ythjabhcbkbchjaadoor", sum := "d4ee779b8a496f0bfc3a8a84eabc58d27a07828b81a9f721ecd76a00ffeab300", func := "buttery/butterylaw08.SlabClose", spec := "slabClose", inPlace := ["internal/reflectlite.ValueOf", "(internal/reflectlite.Value).Type", "(internal/reflectlite.Value).IsNil", "internal/reflectlite.TypeOf", "(internal/reflectlite.Value).Elem", "(internal/reflectlite.Value).Set"], unfollowed := true, recurses := true, named := ["errors.errorType"], apart := false, laid := [("errors.errorType", laid_errors_errorType)], narrowed := true }
def SlabCloseUptoSaid : Prop := slabCloseUptoRow.holds Tryd.pinned (OpenSpec.upto slabCloseSpec)

/-- 'butterylaw08.SlabBounds', WHERE WHAT IT READS IS OF BULK AT MOST 1048576: true; the input reads as it did. -/
def slabBoundsUptoRow : OpenClaim := { program := "ythjabhcbkbchjaadoor", sum := "d4ee779b8a496f0bfc3a8a84eabc58d27a07828b81a9f721ecd76a00ffeab300", func := "buttery/butterylaw08.SlabBounds", spec := "slabBounds", inPlace := ["internal/reflectlite.ValueOf", "(internal/reflectlite.Value).Type", "(internal/reflectlite.Value).IsNil", "internal/reflectlite.TypeOf", "(internal/reflectlite.Value).Elem", "(internal/reflectlite.Value).Set"], unfollowed := true, recurses := true, named := ["errors.errorType"], apart := false, laid := [("errors.errorType", laid_errors_errorType)], narrowed := true }
def SlabBoundsUptoSaid : Prop := slabBoundsUptoRow.holds Tryd.pinned (OpenSpec.upto slabBoundsSpec)

/-- 'butterylaw18.AdmitDoes', WHERE WHAT IT READS IS OF BULK AT MOST 1048576: true; the input reads as it did. -/
def admitDoesUptoRow : OpenClaim := { program := "ythjabhcbkbchjaadoor", sum := "d4ee779b8a496f0bfc3a8a84eabc58d27a07828b81a9f721ecd76a00ffeab300", func := "buttery/butterylaw18.AdmitDoes", spec := "admitDoes", inPlace := ["internal/reflectlite.ValueOf", "(internal/reflectlite.Value).Type", "(internal/reflectlite.Value).IsNil", "internal/reflectlite.TypeOf", "(internal/reflectlite.Value).Elem", "(internal/reflectlite.Value).Set"], unfollowed := true, recurses := true, named := ["errors.errorType"], apart := false, laid := [("errors.errorType", laid_errors_errorType)], narrowed := true }
def AdmitDoesUptoSaid : Prop := admitDoesUptoRow.holds Tryd.pinned (OpenSpec.upto admitDoesSpec)

/-- 'butterylaw18.AdmitFirst', WHERE WHAT IT READS IS OF BULK AT MOST 1048576: true; the input reads as it did. -/
def admitFirstUptoRow : OpenClaim := { program := "ythjabhcbkbchjaadoor", sum := "d4ee779b8a496f0bfc3a8a84eabc58d27a07828b81a9f721ecd76a00ffeab300", func := "buttery/butterylaw18.AdmitFirst", spec := "admitFirst", inPlace := ["internal/reflectlite.ValueOf", "(internal/reflectlite.Value).Type", "(internal/reflectlite.Value).IsNil", "internal/reflectlite.TypeOf", "(internal/reflectlite.Value).Elem", "(internal/reflectlite.Value).Set"], unfollowed := true, recurses := true, named := ["errors.errorType"], apart := false, laid := [("errors.errorType", laid_errors_errorType)], narrowed := true }
def AdmitFirstUptoSaid : Prop := admitFirstUptoRow.holds Tryd.pinned (OpenSpec.upto admitFirstSpec)

/-- 'butterylaw18.AdmitBounds', WHERE WHAT IT READS IS OF BULK AT MOST 1048576: true; the input reads as it did. -/
def admitBoundsUptoRow : OpenClaim := { program := "ythjabhcbkbchjaadoor", sum := "d4ee779b8a496f0bfc3a8a84eabc58d27a07828b81a9f721ecd76a00ffeab300", func := "buttery/butterylaw18.AdmitBounds", spec := "admitBounds", inPlace := ["internal/reflectlite.ValueOf", "(internal/reflectlite.Value).Type", "(internal/reflectlite.Value).IsNil", "internal/reflectlite.TypeOf", "(internal/reflectlite.Value).Elem", "(internal/reflectlite.Value).Set"], unfollowed := true, recurses := true, named := ["errors.errorType"], apart := false, laid := [("errors.errorType", laid_errors_errorType)], narrowed := true }
def AdmitBoundsUptoSaid : Prop := admitBoundsUptoRow.holds Tryd.pinned (OpenSpec.upto admitBoundsSpec)

/-- 'butterylaw08.SlabDoes', WHERE WHAT IT READS IS OF BULK AT MOST 1048576: true; the input reads as it did. -/
def slabDoesUptoRow : OpenClaim := { program := "ythjabhcbkbchjaadoor", sum := "d4ee779b8a496f0bfc3a8a84eabc58d27a07828b81a9f721ecd76a00ffeab300", func := "buttery/butterylaw08.SlabDoes", spec := "slabDoes", inPlace := ["internal/reflectlite.ValueOf", "(internal/reflectlite.Value).Type", "(internal/reflectlite.Value).IsNil", "internal/reflectlite.TypeOf", "(internal/reflectlite.Value).Elem", "(internal/reflectlite.Value).Set"], unfollowed := true, recurses := true, named := ["errors.errorType"], apart := false, laid := [("errors.errorType", laid_errors_errorType)], narrowed := true }
def SlabDoesUptoSaid : Prop := slabDoesUptoRow.holds Tryd.pinned (OpenSpec.upto slabDoesSpec)

end Rows
end Go.Proofs.YthjabhcbkbchjaaDoor
