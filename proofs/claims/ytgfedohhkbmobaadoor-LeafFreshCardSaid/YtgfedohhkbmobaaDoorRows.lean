/-
  NARROWER THAN 'FOR EVERY INPUT', by the rows' own cells (each row's printed sentence says how): LeafPuts: laid · LeafGets: laid · LeafBack: laid · LeafTorn: laid · LeafFresh: laid · ItemChecks: laid · ItemFrom: laid · ItemReads: laid · ItemBack: laid.
  DERIVED. THE GIVEN ROWS OF THIS SEAT. 9 by the template 'for every input the law returns true; each argument reads behind the call as it read before'; 0 by the template 'total and deterministic' (their statements: YtgfedohhkbmobaaDoorTotals.lean).
  GIVEN WITH THE SEED: the statements are not yours to turn. If you find one false, say at which input.
  Laid BY PROGRAM, IN A SANDBOX (cutbox-rows.mjs): the forced cells as the released guide's own fill.sh prints them over the translation c6d2604199d3cdf4… (all of the seat's roots in one cut). By AI agents, Wed Nov 11 2026. No macro, syntax, notation, axiom, sorry.
-/
import Derived.Test.YtgfedohhkbmobaaDoorChecked
import GoSem.Claim
import GoSem.ClaimJoined
import GoSem.ClaimMapViews
import Derived.JoinedTies
import Derived.KernelRfl
namespace Go.Proofs.YtgfedohhkbmobaaDoor
/- THE CELL 'sum', in the pinned program and in every row, IS THE sha256 OF THE DUMP (.gsa) THAT YtgfedohhkbmobaaDoorProg.lean LOADS. Nothing in Lean hashes anything: it is a label: what it is worth is what the hold of that sum in a sandbox is worth. -/
noncomputable def Tryd.pinned : Pinned := { name := "ytgfedohhkbmobaadoor", sum := "c6d2604199d3cdf4780a34a012ed688377cf1c04e2343d69dbb60e8389022ac8", checked := Tryd.checked }
namespace Rows
def none {H : Type} : Left H := { results := [], args := [] }

/- WHAT THE LISTED PACKAGE-LEVEL VARIABLES READ AS WHEN THE CALL BEGINS. Each datum BY PROGRAM (the guide's laid-datum.mjs) off the statement by which the dump's own 'gosem.cut.vars' lays the variable. In a bare row this is a premise. The card (YtgfedohhkbmobaaDoorCards.lean) ties it to the program's text. -/
def laid_errors_errorType {H : Type} : DataW H := .iface "internal/reflectlite.rtype" (.agg [.ptr (.lit (.string [101, 114, 114, 111, 114]))])

/-- 'butterylaw05.LeafPuts': WHATEVER THE INPUT: true; the input reads as it did. -/
def leafPutsSpec : ChangeSpec := { name := "leafPuts", fn := fun _ => fun
  | [d1, d2] => { results := [.lit (.bool true)], args := [d1, d2] }
  | _ => none }
def leafPutsRow : OpenClaim := { program := "ytgfedohhkbmobaadoor", sum := "c6d2604199d3cdf4780a34a012ed688377cf1c04e2343d69dbb60e8389022ac8", func := "buttery/butterylaw05.LeafPuts", spec := "leafPuts", inPlace := ["internal/reflectlite.ValueOf", "(internal/reflectlite.Value).Type", "(internal/reflectlite.Value).IsNil", "internal/reflectlite.TypeOf", "(internal/reflectlite.Value).Elem", "(internal/reflectlite.Value).Set"], unfollowed := true, recurses := true, named := ["errors.errorType"], apart := false, laid := [("errors.errorType", laid_errors_errorType)] }
def LeafPutsSaid : Prop := leafPutsRow.holds Tryd.pinned (OpenSpec.ofChange leafPutsSpec)

/-- ITS FALSE NEIGHBOUR: 'it returns false'. Refute it at one input. -/
def leafPutsWrong : ChangeSpec := { name := "leafPuts", fn := fun _ => fun
  | [d1, d2] => { results := [.lit (.bool false)], args := [d1, d2] }
  | _ => none }
def LeafPutsWrongFalsely : Prop := leafPutsRow.holds Tryd.pinned (OpenSpec.ofChange leafPutsWrong)

/-- 'butterylaw05.LeafGets': WHATEVER THE INPUT: true; the input reads as it did. -/
def leafGetsSpec : ChangeSpec := { name := "leafGets", fn := fun _ => fun
  | [d] => { results := [.lit (.bool true)], args := [d] }
  | _ => none }
def leafGetsRow : OpenClaim := { program := "ytgfedohhkbmobaadoor", sum := "c6d2604199d3cdf4780a34a012ed688377cf1c04e2343d69dbb60e8389022ac8", func := "buttery/butterylaw05.LeafGets", spec := "leafGets", inPlace := ["internal/reflectlite.ValueOf", "(internal/reflectlite.Value).Type", "(internal/reflectlite.Value).IsNil", "internal/reflectlite.TypeOf", "(internal/reflectlite.Value).Elem", "(internal/reflectlite.Value).Set"], unfollowed := true, recurses := true, named := ["errors.errorType"], apart := false, laid := [("errors.errorType", laid_errors_errorType)] }
def LeafGetsSaid : Prop := leafGetsRow.holds Tryd.pinned (OpenSpec.ofChange leafGetsSpec)

/-- ITS FALSE NEIGHBOUR: 'it returns false'. Refute it at one input. -/
def leafGetsWrong : ChangeSpec := { name := "leafGets", fn := fun _ => fun
  | [d] => { results := [.lit (.bool false)], args := [d] }
  | _ => none }
def LeafGetsWrongFalsely : Prop := leafGetsRow.holds Tryd.pinned (OpenSpec.ofChange leafGetsWrong)

/-- 'butterylaw05.LeafBack': WHATEVER THE INPUT: true; the input reads as it did. -/
def leafBackSpec : ChangeSpec := { name := "leafBack", fn := fun _ => fun
  | [d1, d2] => { results := [.lit (.bool true)], args := [d1, d2] }
  | _ => none }
def leafBackRow : OpenClaim := { program := "ytgfedohhkbmobaadoor", sum := "c6d2604199d3cdf4780a34a012ed688377cf1c04e2343d69dbb60e8389022ac8", func := "buttery/butterylaw05.LeafBack", spec := "leafBack", inPlace := ["internal/reflectlite.ValueOf", "(internal/reflectlite.Value).Type", "(internal/reflectlite.Value).IsNil", "internal/reflectlite.TypeOf", "(internal/reflectlite.Value).Elem", "(internal/reflectlite.Value).Set"], unfollowed := true, recurses := true, named := ["errors.errorType"], apart := false, laid := [("errors.errorType", laid_errors_errorType)] }
def LeafBackSaid : Prop := leafBackRow.holds Tryd.pinned (OpenSpec.ofChange leafBackSpec)

/-- ITS FALSE NEIGHBOUR: 'it returns false'. Refute it at one input. -/
def leafBackWrong : ChangeSpec := { name := "leafBack", fn := fun _ => fun
  | [d1, d2] => { results := [.lit (.bool false)], args := [d1, d2] }
  | _ => none }
def LeafBackWrongFalsely : Prop := leafBackRow.holds Tryd.pinned (OpenSpec.ofChange leafBackWrong)

/-- 'butterylaw05.LeafTorn': WHATEVER THE INPUT: true; the input reads as it did. -/
def leafTornSpec : ChangeSpec := { name := "leafTorn", fn := fun _ => fun
  | [d1, d2, d3] => { results := [.lit (.bool true)], args := [d1, d2, d3] }
  | _ => none }
def leafTornRow : OpenClaim := { program := "ytgfedohhkbmobaadoor", sum := "c6d2604199d3cdf4780a34a012ed688377cf1c04e2343d69dbb60e8389022ac8", func := "buttery/butterylaw05.LeafTorn", spec := "leafTorn", inPlace := ["internal/reflectlite.ValueOf", "(internal/reflectlite.Value).Type", "(internal/reflectlite.Value).IsNil", "internal/reflectlite.TypeOf", "(internal/reflectlite.Value).Elem", "(internal/reflectlite.Value).Set"], unfollowed := true, recurses := true, named := ["errors.errorType"], apart := false, laid := [("errors.errorType", laid_errors_errorType)] }
def LeafTornSaid : Prop := leafTornRow.holds Tryd.pinned (OpenSpec.ofChange leafTornSpec)

/-- ITS FALSE NEIGHBOUR: 'it returns false'. Refute it at one input. -/
def leafTornWrong : ChangeSpec := { name := "leafTorn", fn := fun _ => fun
  | [d1, d2, d3] => { results := [.lit (.bool false)], args := [d1, d2, d3] }
  | _ => none }
def LeafTornWrongFalsely : Prop := leafTornRow.holds Tryd.pinned (OpenSpec.ofChange leafTornWrong)

/-- 'butterylaw05.LeafFresh': WHATEVER THE INPUT: true; the input reads as it did. -/
def leafFreshSpec : ChangeSpec := { name := "leafFresh", fn := fun _ => fun
  | [d1, d2] => { results := [.lit (.bool true)], args := [d1, d2] }
  | _ => none }
def leafFreshRow : OpenClaim := { program := "ytgfedohhkbmobaadoor", sum := "c6d2604199d3cdf4780a34a012ed688377cf1c04e2343d69dbb60e8389022ac8", func := "buttery/butterylaw05.LeafFresh", spec := "leafFresh", inPlace := ["internal/reflectlite.ValueOf", "(internal/reflectlite.Value).Type", "(internal/reflectlite.Value).IsNil", "internal/reflectlite.TypeOf", "(internal/reflectlite.Value).Elem", "(internal/reflectlite.Value).Set"], unfollowed := true, recurses := true, named := ["errors.errorType"], apart := false, laid := [("errors.errorType", laid_errors_errorType)] }
def LeafFreshSaid : Prop := leafFreshRow.holds Tryd.pinned (OpenSpec.ofChange leafFreshSpec)

/-- ITS FALSE NEIGHBOUR: 'it returns false'. Refute it at one input. -/
def leafFreshWrong : ChangeSpec := { name := "leafFresh", fn := fun _ => fun
  | [d1, d2] => { results := [.lit (.bool false)], args := [d1, d2] }
  | _ => none }
def LeafFreshWrongFalsely : Prop := leafFreshRow.holds Tryd.pinned (OpenSpec.ofChange leafFreshWrong)

/-- 'butterylaw06.ItemChecks': WHATEVER THE INPUT: true; the input reads as it did. -/
def itemChecksSpec : ChangeSpec := { name := "itemChecks", fn := fun _ => fun
  | [d1, d2, d3] => { results := [.lit (.bool true)], args := [d1, d2, d3] }
  | _ => none }
def itemChecksRow : OpenClaim := { program := "ytgfedohhkbmobaadoor", sum := "c6d2604199d3cdf4780a34a012ed688377cf1c04e2343d69dbb60e8389022ac8", func := "buttery/butterylaw06.ItemChecks", spec := "itemChecks", inPlace := ["internal/reflectlite.ValueOf", "(internal/reflectlite.Value).Type", "(internal/reflectlite.Value).IsNil", "internal/reflectlite.TypeOf", "(internal/reflectlite.Value).Elem", "(internal/reflectlite.Value).Set"], unfollowed := true, recurses := true, named := ["errors.errorType"], apart := false, laid := [("errors.errorType", laid_errors_errorType)] }
def ItemChecksSaid : Prop := itemChecksRow.holds Tryd.pinned (OpenSpec.ofChange itemChecksSpec)

/-- ITS FALSE NEIGHBOUR: 'it returns false'. Refute it at one input. -/
def itemChecksWrong : ChangeSpec := { name := "itemChecks", fn := fun _ => fun
  | [d1, d2, d3] => { results := [.lit (.bool false)], args := [d1, d2, d3] }
  | _ => none }
def ItemChecksWrongFalsely : Prop := itemChecksRow.holds Tryd.pinned (OpenSpec.ofChange itemChecksWrong)

/-- 'butterylaw06.ItemFrom': WHATEVER THE INPUT: true; the input reads as it did. -/
def itemFromSpec : ChangeSpec := { name := "itemFrom", fn := fun _ => fun
  | [d1, d2] => { results := [.lit (.bool true)], args := [d1, d2] }
  | _ => none }
def itemFromRow : OpenClaim := { program := "ytgfedohhkbmobaadoor", sum := "c6d2604199d3cdf4780a34a012ed688377cf1c04e2343d69dbb60e8389022ac8", func := "buttery/butterylaw06.ItemFrom", spec := "itemFrom", inPlace := ["internal/reflectlite.ValueOf", "(internal/reflectlite.Value).Type", "(internal/reflectlite.Value).IsNil", "internal/reflectlite.TypeOf", "(internal/reflectlite.Value).Elem", "(internal/reflectlite.Value).Set"], unfollowed := true, recurses := true, named := ["errors.errorType"], apart := false, laid := [("errors.errorType", laid_errors_errorType)] }
def ItemFromSaid : Prop := itemFromRow.holds Tryd.pinned (OpenSpec.ofChange itemFromSpec)

/-- ITS FALSE NEIGHBOUR: 'it returns false'. Refute it at one input. -/
def itemFromWrong : ChangeSpec := { name := "itemFrom", fn := fun _ => fun
  | [d1, d2] => { results := [.lit (.bool false)], args := [d1, d2] }
  | _ => none }
def ItemFromWrongFalsely : Prop := itemFromRow.holds Tryd.pinned (OpenSpec.ofChange itemFromWrong)

/-- 'butterylaw06.ItemReads': WHATEVER THE INPUT: true; the input reads as it did. -/
def itemReadsSpec : ChangeSpec := { name := "itemReads", fn := fun _ => fun
  | [d1, d2] => { results := [.lit (.bool true)], args := [d1, d2] }
  | _ => none }
def itemReadsRow : OpenClaim := { program := "ytgfedohhkbmobaadoor", sum := "c6d2604199d3cdf4780a34a012ed688377cf1c04e2343d69dbb60e8389022ac8", func := "buttery/butterylaw06.ItemReads", spec := "itemReads", inPlace := ["internal/reflectlite.ValueOf", "(internal/reflectlite.Value).Type", "(internal/reflectlite.Value).IsNil", "internal/reflectlite.TypeOf", "(internal/reflectlite.Value).Elem", "(internal/reflectlite.Value).Set"], unfollowed := true, recurses := true, named := ["errors.errorType"], apart := false, laid := [("errors.errorType", laid_errors_errorType)] }
def ItemReadsSaid : Prop := itemReadsRow.holds Tryd.pinned (OpenSpec.ofChange itemReadsSpec)

/-- ITS FALSE NEIGHBOUR: 'it returns false'. Refute it at one input. -/
def itemReadsWrong : ChangeSpec := { name := "itemReads", fn := fun _ => fun
  | [d1, d2] => { results := [.lit (.bool false)], args := [d1, d2] }
  | _ => none }
def ItemReadsWrongFalsely : Prop := itemReadsRow.holds Tryd.pinned (OpenSpec.ofChange itemReadsWrong)

/-- 'butterylaw06.ItemBack': WHATEVER THE INPUT: true; the input reads as it did. -/
def itemBackSpec : ChangeSpec := { name := "itemBack", fn := fun _ => fun
  | [d1, d2] => { results := [.lit (.bool true)], args := [d1, d2] }
  | _ => none }
def itemBackRow : OpenClaim := { program := "ytgfedohhkbmobaadoor", sum := "c6d2604199d3cdf4780a34a012ed688377cf1c04e2343d69dbb60e8389022ac8", func := "buttery/butterylaw06.ItemBack", spec := "itemBack", inPlace := ["internal/reflectlite.ValueOf", "(internal/reflectlite.Value).Type", "(internal/reflectlite.Value).IsNil", "internal/reflectlite.TypeOf", "(internal/reflectlite.Value).Elem", "(internal/reflectlite.Value).Set"], unfollowed := true, recurses := true, named := ["errors.errorType"], apart := false, laid := [("errors.errorType", laid_errors_errorType)] }
def ItemBackSaid : Prop := itemBackRow.holds Tryd.pinned (OpenSpec.ofChange itemBackSpec)

/-- ITS FALSE NEIGHBOUR: 'it returns false'. Refute it at one input. -/
def itemBackWrong : ChangeSpec := { name := "itemBack", fn := fun _ => fun
  | [d1, d2] => { results := [.lit (.bool false)], args := [d1, d2] }
  | _ => none }
def ItemBackWrongFalsely : Prop := itemBackRow.holds Tryd.pinned (OpenSpec.ofChange itemBackWrong)

/- THE SECOND FORM. 'bulk': how many values and letters a reading holds, each counted each time it is reached (what is shared counts as often as it is met; a slice's spare places count too). A statement '..UptoSaid' is the law's where the arguments, and the package variables that the reading takes, are together of bulk at most 1048576: NARROWER than '..Said'. Prove '..Said' where nothing that the law and all that it calls make is longer than what came in: it says more and counts as full. Else prove '..UptoSaid'. A law counts once. -/
mutual
def uptoBulk {H : Type} : DataW H → Nat
  | .lit (.string bytes) => bytes.length + 1
  | .lit _ => 1
  | .nil => 1
  | .ptr d => uptoBulk d + 1
  | .slice elems spare => uptoBulkAll elems + uptoBulkAll spare + 1
  | .agg parts => uptoBulkAll parts + 1
  | .iface _ d => uptoBulk d + 1
  | .map entries => uptoBulkEntries entries + 1
  | .held _ => 1
def uptoBulkAll {H : Type} : List (DataW H) → Nat
  | [] => 0
  | d :: r => uptoBulk d + uptoBulkAll r
def uptoBulkEntries {H : Type} : List (Lit × DataW H) → Nat
  | [] => 0
  | x :: r => uptoBulkEntry x + uptoBulkEntries r
def uptoBulkEntry {H : Type} : Lit × DataW H → Nat
  | (.string bytes, d) => bytes.length + uptoBulk d + 1
  | (_, d) => uptoBulk d + 1
 end
def uptoSmall : (H : Type) → List (DataW H) → Bool := fun _ ds => decide (uptoBulkAll ds ≤ 1048576)
def OpenSpec.upto (s : _root_.Go.ChangeSpec) : _root_.Go.OpenSpec := { _root_.Go.OpenSpec.ofChange s with cond := some uptoSmall }

/-- 'butterylaw05.LeafPuts', WHERE WHAT IT READS IS OF BULK AT MOST 1048576: true; the input reads as it did. -/
def leafPutsUptoRow : OpenClaim := { program := "ytgfedohhkbmobaadoor", sum := "c6d2604199d3cdf4780a34a012ed688377cf1c04e2343d69dbb60e8389022ac8", func := "buttery/butterylaw05.LeafPuts", spec := "leafPuts", inPlace := ["internal/reflectlite.ValueOf", "(internal/reflectlite.Value).Type", "(internal/reflectlite.Value).IsNil", "internal/reflectlite.TypeOf", "(internal/reflectlite.Value).Elem", "(internal/reflectlite.Value).Set"], unfollowed := true, recurses := true, named := ["errors.errorType"], apart := false, laid := [("errors.errorType", laid_errors_errorType)], narrowed := true }
def LeafPutsUptoSaid : Prop := leafPutsUptoRow.holds Tryd.pinned (OpenSpec.upto leafPutsSpec)

/-- 'butterylaw05.LeafGets', WHERE WHAT IT READS IS OF BULK AT MOST 1048576: true; the input reads as it did. -/
def leafGetsUptoRow : OpenClaim := { program := "ytgfedohhkbmobaadoor", sum := "c6d2604199d3cdf4780a34a012ed688377cf1c04e2343d69dbb60e8389022ac8", func := "buttery/butterylaw05.LeafGets", spec := "leafGets", inPlace := ["internal/reflectlite.ValueOf", "(internal/reflectlite.Value).Type", "(internal/reflectlite.Value).IsNil", "internal/reflectlite.TypeOf", "(internal/reflectlite.Value).Elem", "(internal/reflectlite.Value).Set"], unfollowed := true, recurses := true, named := ["errors.errorType"], apart := false, laid := [("errors.errorType", laid_errors_errorType)], narrowed := true }
def LeafGetsUptoSaid : Prop := leafGetsUptoRow.holds Tryd.pinned (OpenSpec.upto leafGetsSpec)

/-- 'butterylaw05.LeafBack', WHERE WHAT IT READS IS OF BULK AT MOST 1048576: true; the input reads as it did. -/
def leafBackUptoRow : OpenClaim := { program := "ytgfedohhkbmobaadoor", sum := "c6d2604199d3cdf4780a34a012ed688377cf1c04e2343d69dbb60e8389022ac8", func := "buttery/butterylaw05.LeafBack", spec := "leafBack", inPlace := ["internal/reflectlite.ValueOf", "(internal/reflectlite.Value).Type", "(internal/reflectlite.Value).IsNil", "internal/reflectlite.TypeOf", "(internal/reflectlite.Value).Elem", "(internal/reflectlite.Value).Set"], unfollowed := true, recurses := true, named := ["errors.errorType"], apart := false, laid := [("errors.errorType", laid_errors_errorType)], narrowed := true }
def LeafBackUptoSaid : Prop := leafBackUptoRow.holds Tryd.pinned (OpenSpec.upto leafBackSpec)

/-- 'butterylaw05.LeafTorn', WHERE WHAT IT READS IS OF BULK AT MOST 1048576: true; the input reads as it did. -/
def leafTornUptoRow : OpenClaim := { program := "ytgfedohhkbmobaadoor", sum := "c6d2604199d3cdf4780a34a012ed688377cf1c04e2343d69dbb60e8389022ac8", func := "buttery/butterylaw05.LeafTorn", spec := "leafTorn", inPlace := ["internal/reflectlite.ValueOf", "(internal/reflectlite.Value).Type", "(internal/reflectlite.Value).IsNil", "internal/reflectlite.TypeOf", "(internal/reflectlite.Value).Elem", "(internal/reflectlite.Value).Set"], unfollowed := true, recurses := true, named := ["errors.errorType"], apart := false, laid := [("errors.errorType", laid_errors_errorType)], narrowed := true }
def LeafTornUptoSaid : Prop := leafTornUptoRow.holds Tryd.pinned (OpenSpec.upto leafTornSpec)

/-- 'butterylaw05.LeafFresh', WHERE WHAT IT READS IS OF BULK AT MOST 1048576: true; the input reads as it did. -/
def leafFreshUptoRow : OpenClaim := { program := "ytgfedohhkbmobaadoor", sum := "c6d2604199d3cdf4780a34a012ed688377cf1c04e2343d69dbb60e8389022ac8", func := "buttery/butterylaw05.LeafFresh", spec := "leafFresh", inPlace := ["internal/reflectlite.ValueOf", "(internal/reflectlite.Value).Type", "(internal/reflectlite.Value).IsNil", "internal/reflectlite.TypeOf", "(internal/reflectlite.Value).Elem", "(internal/reflectlite.Value).Set"], unfollowed := true, recurses := true, named := ["errors.errorType"], apart := false, laid := [("errors.errorType", laid_errors_errorType)], narrowed := true }
def LeafFreshUptoSaid : Prop := leafFreshUptoRow.holds Tryd.pinned (OpenSpec.upto leafFreshSpec)

/-- 'butterylaw06.ItemChecks', WHERE WHAT IT READS IS OF BULK AT MOST 1048576: true; the input reads as it did. -/
def itemChecksUptoRow : OpenClaim := { program := "ytgfedohhkbmobaadoor", sum := "c6d2604199d3cdf4780a34a012ed688377cf1c04e2343d69dbb60e8389022ac8", func := "buttery/butterylaw06.ItemChecks", spec := "itemChecks", inPlace := ["internal/reflectlite.ValueOf", "(internal/reflectlite.Value).Type", "(internal/reflectlite.Value).IsNil", "internal/reflectlite.TypeOf", "(internal/reflectlite.Value).Elem", "(internal/reflectlite.Value).Set"], unfollowed := true, recurses := true, named := ["errors.errorType"], apart := false, laid := [("errors.errorType", laid_errors_errorType)], narrowed := true }
def ItemChecksUptoSaid : Prop := itemChecksUptoRow.holds Tryd.pinned (OpenSpec.upto itemChecksSpec)

/-- 'butterylaw06.ItemFrom', WHERE WHAT IT READS IS OF BULK AT MOST 1048576: true; the input reads as it did. -/
def itemFromUptoRow : OpenClaim := { program := "ytgfedohhkbmobaadoor", sum := "c6d2604199d3cdf4780a34a012ed688377cf1c04e2343d69dbb60e8389022ac8", func := "buttery/butterylaw06.ItemFrom", spec := "itemFrom", inPlace := ["internal/reflectlite.ValueOf", "(internal/reflectlite.Value).Type", "(internal/reflectlite.Value).IsNil", "internal/reflectlite.TypeOf", "(internal/reflectlite.Value).Elem", "(internal/reflectlite.Value).Set"], unfollowed := true, recurses := true, named := ["errors.errorType"], apart := false, laid := [("errors.errorType", laid_errors_errorType)], narrowed := true }
def ItemFromUptoSaid : Prop := itemFromUptoRow.holds Tryd.pinned (OpenSpec.upto itemFromSpec)

/-- 'butterylaw06.ItemReads', WHERE WHAT IT READS IS OF BULK AT MOST 1048576: true; the input reads as it did. -/
def itemReadsUptoRow : OpenClaim := { program := "ytgfedohhkbmobaadoor", sum := "c6d2604199d3cdf4780a34a012ed688377cf1c04e2343d69dbb60e8389022ac8", func := "buttery/butterylaw06.ItemReads", spec := "itemReads", inPlace := ["internal/reflectlite.ValueOf", "(internal/reflectlite.Value).Type", "(internal/reflectlite.Value).IsNil", "internal/reflectlite.TypeOf", "(internal/reflectlite.Value).Elem", "(internal/reflectlite.Value).Set"], unfollowed := true, recurses := true, named := ["errors.errorType"], apart := false, laid := [("errors.errorType", laid_errors_errorType)], narrowed := true }
def ItemReadsUptoSaid : Prop := itemReadsUptoRow.holds Tryd.pinned (OpenSpec.upto itemReadsSpec)

/-- 'butterylaw06.ItemBack', WHERE WHAT IT READS IS OF BULK AT MOST 1048576: true; the input reads as it did. -/
def itemBackUptoRow : OpenClaim := { program := "ytgfedohhkbmobaadoor", sum := "c6d2604199d3cdf4780a34a012ed688377cf1c04e2343d69dbb60e8389022ac8", func := "buttery/butterylaw06.ItemBack", spec := "itemBack", inPlace := ["internal/reflectlite.ValueOf", "(internal/reflectlite.Value).Type", "(internal/reflectlite.Value).IsNil", "internal/reflectlite.TypeOf", "(internal/reflectlite.Value).Elem", "(internal/reflectlite.Value).Set"], unfollowed := true, recurses := true, named := ["errors.errorType"], apart := false, laid := [("errors.errorType", laid_errors_errorType)], narrowed := true }
def ItemBackUptoSaid : Prop := itemBackUptoRow.holds Tryd.pinned (OpenSpec.upto itemBackSpec)

end Rows
end Go.Proofs.YtgfedohhkbmobaaDoor
