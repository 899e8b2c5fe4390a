/-
  NARROWER THAN 'FOR EVERY INPUT', by the rows' own cells (each row's printed sentence says how): TroubleTells: laid · TroubleHas: laid · TroubleWraps: laid · TroubleBoth: laid.
  DERIVED. THE GIVEN ROWS OF THIS SEAT. 4 by the template 'for every input the law returns true; each argument reads behind the call as it read before'; 0 by the template 'total and deterministic' (their statements: YtekldjimdmkgaaaDoorTotals.lean).
  GIVEN WITH THE SEED: the statements are not yours to turn. If you find one false, say at which input.
  Laid BY PROGRAM, IN A SANDBOX (cutbox-rows.mjs): the forced cells as the released guide's own fill.sh prints them over the translation ab895f789a328fc8… (all of the seat's roots in one cut). By AI agents, Wed Nov 11 2026. No macro, syntax, notation, axiom, sorry.
-/
import Derived.Test.YtekldjimdmkgaaaDoorChecked
import GoSem.Claim
import GoSem.ClaimJoined
import GoSem.ClaimMapViews
import Derived.JoinedTies
import Derived.KernelRfl
namespace Go.Proofs.YtekldjimdmkgaaaDoor
/- THE CELL 'sum', in the pinned program and in every row, IS THE sha256 OF THE DUMP (.gsa) THAT YtekldjimdmkgaaaDoorProg.lean LOADS. Nothing in Lean hashes anything: it is a label: what it is worth is what the hold of that sum in a sandbox is worth. -/
noncomputable def Tryd.pinned : Pinned := { name := "ytekldjimdmkgaaadoor", sum := "ab895f789a328fc8c8ff6817d371c2fe4baed4c260f456fa2d94fc2d608ac188", checked := Tryd.checked }
namespace Rows
def none {H : Type} : Left H := { results := [], args := [] }

/- WHAT THE LISTED PACKAGE-LEVEL VARIABLES READ AS WHEN THE CALL BEGINS. Each datum BY PROGRAM (the guide's laid-datum.mjs) off the statement by which the dump's own 'gosem.cut.vars' lays the variable. In a bare row this is a premise. The card (YtekldjimdmkgaaaDoorCards.lean) ties it to the program's text. -/
def laid_errors_errorType {H : Type} : DataW H := .iface "internal/reflectlite.rtype" (.agg [.ptr (.lit (.string [101, 114, 114, 111, 114]))])

/-- 'butterylaw01.TroubleTells': WHATEVER THE INPUT: true; the input reads as it did. -/
def troubleTellsSpec : ChangeSpec := { name := "troubleTells", fn := fun _ => fun
  | [d1, d2, d3, d4] => { results := [.lit (.bool true)], args := [d1, d2, d3, d4] }
  | _ => none }
def troubleTellsRow : OpenClaim := { program := "ytekldjimdmkgaaadoor", sum := "ab895f789a328fc8c8ff6817d371c2fe4baed4c260f456fa2d94fc2d608ac188", func := "buttery/butterylaw01.TroubleTells", spec := "troubleTells", inPlace := ["internal/reflectlite.ValueOf", "(internal/reflectlite.Value).Type", "(internal/reflectlite.Value).IsNil", "internal/reflectlite.TypeOf", "(internal/reflectlite.Value).Elem", "(internal/reflectlite.Value).Set"], unfollowed := true, recurses := true, named := ["errors.errorType"], apart := false, laid := [("errors.errorType", laid_errors_errorType)] }
def TroubleTellsSaid : Prop := troubleTellsRow.holds Tryd.pinned (OpenSpec.ofChange troubleTellsSpec)

/-- ITS FALSE NEIGHBOUR: 'it returns false'. Refute it at one input. -/
def troubleTellsWrong : ChangeSpec := { name := "troubleTells", fn := fun _ => fun
  | [d1, d2, d3, d4] => { results := [.lit (.bool false)], args := [d1, d2, d3, d4] }
  | _ => none }
def TroubleTellsWrongFalsely : Prop := troubleTellsRow.holds Tryd.pinned (OpenSpec.ofChange troubleTellsWrong)

/-- 'butterylaw01.TroubleHas': WHATEVER THE INPUT: true; the input reads as it did. -/
def troubleHasSpec : ChangeSpec := { name := "troubleHas", fn := fun _ => fun
  | [d1, d2, d3] => { results := [.lit (.bool true)], args := [d1, d2, d3] }
  | _ => none }
def troubleHasRow : OpenClaim := { program := "ytekldjimdmkgaaadoor", sum := "ab895f789a328fc8c8ff6817d371c2fe4baed4c260f456fa2d94fc2d608ac188", func := "buttery/butterylaw01.TroubleHas", spec := "troubleHas", inPlace := ["internal/reflectlite.TypeOf", "internal/reflectlite.ValueOf", "(internal/reflectlite.Value).Type", "(internal/reflectlite.Value).IsNil", "(internal/reflectlite.Value).Elem", "(internal/reflectlite.Value).Set"], unfollowed := true, recurses := true, named := ["errors.errorType"], apart := false, laid := [("errors.errorType", laid_errors_errorType)] }
def TroubleHasSaid : Prop := troubleHasRow.holds Tryd.pinned (OpenSpec.ofChange troubleHasSpec)

/-- ITS FALSE NEIGHBOUR: 'it returns false'. Refute it at one input. -/
def troubleHasWrong : ChangeSpec := { name := "troubleHas", fn := fun _ => fun
  | [d1, d2, d3] => { results := [.lit (.bool false)], args := [d1, d2, d3] }
  | _ => none }
def TroubleHasWrongFalsely : Prop := troubleHasRow.holds Tryd.pinned (OpenSpec.ofChange troubleHasWrong)

/-- 'butterylaw01.TroubleWraps': WHATEVER THE INPUT: true; the input reads as it did. -/
def troubleWrapsSpec : ChangeSpec := { name := "troubleWraps", fn := fun _ => fun
  | [d1, d2, d3, d4] => { results := [.lit (.bool true)], args := [d1, d2, d3, d4] }
  | _ => none }
def troubleWrapsRow : OpenClaim := { program := "ytekldjimdmkgaaadoor", sum := "ab895f789a328fc8c8ff6817d371c2fe4baed4c260f456fa2d94fc2d608ac188", func := "buttery/butterylaw01.TroubleWraps", spec := "troubleWraps", inPlace := ["internal/reflectlite.ValueOf", "(internal/reflectlite.Value).Type", "(internal/reflectlite.Value).IsNil", "internal/reflectlite.TypeOf", "(internal/reflectlite.Value).Elem", "(internal/reflectlite.Value).Set"], unfollowed := true, recurses := true, named := ["errors.errorType"], apart := false, laid := [("errors.errorType", laid_errors_errorType)] }
def TroubleWrapsSaid : Prop := troubleWrapsRow.holds Tryd.pinned (OpenSpec.ofChange troubleWrapsSpec)

/-- ITS FALSE NEIGHBOUR: 'it returns false'. Refute it at one input. -/
def troubleWrapsWrong : ChangeSpec := { name := "troubleWraps", fn := fun _ => fun
  | [d1, d2, d3, d4] => { results := [.lit (.bool false)], args := [d1, d2, d3, d4] }
  | _ => none }
def TroubleWrapsWrongFalsely : Prop := troubleWrapsRow.holds Tryd.pinned (OpenSpec.ofChange troubleWrapsWrong)

/-- 'butterylaw01.TroubleBoth': WHATEVER THE INPUT: true; the input reads as it did. -/
def troubleBothSpec : ChangeSpec := { name := "troubleBoth", fn := fun _ => fun
  | [d1, d2, d3, d4, d5] => { results := [.lit (.bool true)], args := [d1, d2, d3, d4, d5] }
  | _ => none }
def troubleBothRow : OpenClaim := { program := "ytekldjimdmkgaaadoor", sum := "ab895f789a328fc8c8ff6817d371c2fe4baed4c260f456fa2d94fc2d608ac188", func := "buttery/butterylaw01.TroubleBoth", spec := "troubleBoth", inPlace := ["internal/reflectlite.TypeOf", "internal/reflectlite.ValueOf", "(internal/reflectlite.Value).Type", "(internal/reflectlite.Value).IsNil", "(internal/reflectlite.Value).Elem", "(internal/reflectlite.Value).Set"], unfollowed := true, recurses := true, named := ["errors.errorType"], apart := false, laid := [("errors.errorType", laid_errors_errorType)] }
def TroubleBothSaid : Prop := troubleBothRow.holds Tryd.pinned (OpenSpec.ofChange troubleBothSpec)

/-- ITS FALSE NEIGHBOUR: 'it returns false'. Refute it at one input. -/
def troubleBothWrong : ChangeSpec := { name := "troubleBoth", fn := fun _ => fun
  | [d1, d2, d3, d4, d5] => { results := [.lit (.bool false)], args := [d1, d2, d3, d4, d5] }
  | _ => none }
def TroubleBothWrongFalsely : Prop := troubleBothRow.holds Tryd.pinned (OpenSpec.ofChange troubleBothWrong)

/- THE SECOND FORM. 'bulk': how many values and letters a reading holds, each counted each time it is reached (what is shared counts as often as it is met; a slice's spare places count too). A statement '..UptoSaid' is the law's where the arguments, and the package variables that the reading takes, are together of bulk at most 1048576: NARROWER than '..Said'. Prove '..Said' where nothing that the law and all that it calls make is longer than what came in: it says more and counts as full. Else prove '..UptoSaid'. A law counts once. -/
mutual
def uptoBulk {H : Type} : DataW H → Nat
  | .lit (.string bytes) => bytes.length + 1
  | .lit _ => 1
  | .nil => 1
  | .ptr d => uptoBulk d + 1
  | .slice elems spare => uptoBulkAll elems + uptoBulkAll spare + 1
  | .agg parts => uptoBulkAll parts + 1
  | .iface _ d => uptoBulk d + 1
  | .map entries => uptoBulkEntries entries + 1
  | .held _ => 1
def uptoBulkAll {H : Type} : List (DataW H) → Nat
  | [] => 0
  | d :: r => uptoBulk d + uptoBulkAll r
def uptoBulkEntries {H : Type} : List (Lit × DataW H) → Nat
  | [] => 0
  | x :: r => uptoBulkEntry x + uptoBulkEntries r
def uptoBulkEntry {H : Type} : Lit × DataW H → Nat
  | (.string bytes, d) => bytes.length + uptoBulk d + 1
  | (_, d) => uptoBulk d + 1
 end
def uptoSmall : (H : Type) → List (DataW H) → Bool := fun _ ds => decide (uptoBulkAll ds ≤ 1048576)
def OpenSpec.upto (s : _root_.Go.ChangeSpec) : _root_.Go.OpenSpec := { _root_.Go.OpenSpec.ofChange s with cond := some uptoSmall }

/-- 'butterylaw01.TroubleTells', WHERE WHAT IT READS IS OF BULK AT MOST 1048576: true; the input reads as it did. -/
def troubleTellsUptoRow : OpenClaim := { program := "ytekldjimdmkgaaadoor", sum := "ab895f789a328fc8c8ff6817d371c2fe4baed4c260f456fa2d94fc2d608ac188", func := "buttery/butterylaw01.TroubleTells", spec := "troubleTells", inPlace := ["internal/reflectlite.ValueOf", "(internal/reflectlite.Value).Type", "(internal/reflectlite.Value).IsNil", "internal/reflectlite.TypeOf", "(internal/reflectlite.Value).Elem", "(internal/reflectlite.Value).Set"], unfollowed := true, recurses := true, named := ["errors.errorType"], apart := false, laid := [("errors.errorType", laid_errors_errorType)], narrowed := true }
def TroubleTellsUptoSaid : Prop := troubleTellsUptoRow.holds Tryd.pinned (OpenSpec.upto troubleTellsSpec)

/-- 'butterylaw01.TroubleHas', WHERE WHAT IT READS IS OF BULK AT MOST 1048576: true; the input reads as it did. -/
def troubleHasUptoRow : OpenClaim := { program := "ytekldjimdmkgaaadoor", sum := "ab895f789a328fc8c8ff6817d371c2fe4baed4c260f456fa2d94fc2d608ac188", func := "buttery/butterylaw01.TroubleHas", spec := "troubleHas", inPlace := ["internal/reflectlite.TypeOf", "internal/reflectlite.ValueOf", "(internal/reflectlite.Value).Type", "(internal/reflectlite.Value).IsNil", "(internal/reflectlite.Value).Elem", "(internal/reflectlite.Value).Set"], unfollowed := true, recurses := true, named := ["errors.errorType"], apart := false, laid := [("errors.errorType", laid_errors_errorType)], narrowed := true }
def TroubleHasUptoSaid : Prop := troubleHasUptoRow.holds Tryd.pinned (OpenSpec.upto troubleHasSpec)

/-- 'butterylaw01.TroubleWraps', WHERE WHAT IT READS IS OF BULK AT MOST 1048576: true; the input reads as it did. -/
def troubleWrapsUptoRow : OpenClaim := { program := "ytekldjimdmkgaaadoor", sum := "ab895f789a328fc8c8ff6817d371c2fe4baed4c260f456fa2d94fc2d608ac188", func := "buttery/butterylaw01.TroubleWraps", spec := "troubleWraps", inPlace := ["internal/reflectlite.ValueOf", "(internal/reflectlite.Value).Type", "(internal/reflectlite.Value).IsNil", "internal/reflectlite.TypeOf", "(internal/reflectlite.Value).Elem", "(internal/reflectlite.Value).Set"], unfollowed := true, recurses := true, named := ["errors.errorType"], apart := false, laid := [("errors.errorType", laid_errors_errorType)], narrowed := true }
def TroubleWrapsUptoSaid : Prop := troubleWrapsUptoRow.holds Tryd.pinned (OpenSpec.upto troubleWrapsSpec)

/-- 'butterylaw01.TroubleBoth', WHERE WHAT IT READS IS OF BULK AT MOST 1048576: true; the input reads as it did. -/
def troubleBothUptoRow : OpenClaim := { program := "ytekldjimdmkgaaadoor", sum := "ab895f789a328fc8c8ff6817d371c2fe4baed4c260f456fa2d94fc2d608ac188", func := "buttery/butterylaw01.TroubleBoth", spec := "troubleBoth", inPlace := ["internal/reflectlite.TypeOf", "internal/reflectlite.ValueOf", "(internal/reflectlite.Value).Type", "(internal/reflectlite.Value).IsNil", "(internal/reflectlite.Value).Elem", "(internal/reflectlite.Value).Set"], unfollowed := true, recurses := true, named := ["errors.errorType"], apart := false, laid := [("errors.errorType", laid_errors_errorType)], narrowed := true }
def TroubleBothUptoSaid : Prop := troubleBothUptoRow.holds Tryd.pinned (OpenSpec.upto troubleBothSpec)

end Rows
end Go.Proofs.YtekldjimdmkgaaaDoor
