/-
  DERIVED. GIVEN WITH THE SEED: THE CARDS: each row of YtmgjdbbggajljaaDoorRows.lean that lists a variable, with what it lists TIED to the program's text (the seventh form; the later family's looks); each row that meets fmt, with fmt's text TOLD by the authors' own Lean function (tested against real Go, not proved from fmt's source: count such statements apart). THE CARD IS WHAT COUNTS. Prove the row's statement (the work); the ties are given (YtmgjdbbggajljaaDoorTie.lean); close each card by the builder's one call (the guide's Derived/Test/ToyasCard.lean, 'card_holds'). Laid BY PROGRAM, IN A SANDBOX (cutbox-door.mjs). By AI agents, Wed Nov 11 2026. No macro, syntax, notation, axiom, sorry.
-/
import Derived.Test.YtmgjdbbggajljaaDoorRows
import GoSem.ClaimSeven
namespace Go.Proofs.YtmgjdbbggajljaaDoor
namespace Rows

/-- THE TIED CARD OF 'butterylaw19.JobsDoes'. -/
def jobsDoesCard : Claim7 := { stood := { row := jobsDoesRow, standIns := [], harness := (true, "a369d0715cb5f6c774318cf3e34982cf4a4947a027c81ceba0617c251dffef6b"), looks := true }, kinds := [], alts := [], laidByText := true, laidKinds := [.handle], laidTests := true, laidLooks := .later }
def JobsDoesCardSaid : Prop := Claim7.holds Tryd.pinned (.plain (OpenSpec.ofChange jobsDoesSpec)) jobsDoesCard

/-- THE TIED CARD OF 'butterylaw19.JobsOnce'. -/
def jobsOnceCard : Claim7 := { stood := { row := jobsOnceRow, standIns := [], harness := (true, "a369d0715cb5f6c774318cf3e34982cf4a4947a027c81ceba0617c251dffef6b"), looks := true }, kinds := [], alts := [], laidByText := true, laidKinds := [.handle], laidTests := true, laidLooks := .later }
def JobsOnceCardSaid : Prop := Claim7.holds Tryd.pinned (.plain (OpenSpec.ofChange jobsOnceSpec)) jobsOnceCard

/-- THE SECOND FORM's CARD OF 'butterylaw19.JobsDoes'. -/
def jobsDoesUptoCard : Claim7 := { stood := { row := jobsDoesUptoRow, standIns := [], harness := (true, "a369d0715cb5f6c774318cf3e34982cf4a4947a027c81ceba0617c251dffef6b"), looks := true }, kinds := [], alts := [], laidByText := true, laidKinds := [.handle], laidTests := true, laidLooks := .later }
def JobsDoesUptoCardSaid : Prop := Claim7.holds Tryd.pinned (.plain (OpenSpec.upto jobsDoesSpec)) jobsDoesUptoCard

/-- THE SECOND FORM's CARD OF 'butterylaw19.JobsOnce'. -/
def jobsOnceUptoCard : Claim7 := { stood := { row := jobsOnceUptoRow, standIns := [], harness := (true, "a369d0715cb5f6c774318cf3e34982cf4a4947a027c81ceba0617c251dffef6b"), looks := true }, kinds := [], alts := [], laidByText := true, laidKinds := [.handle], laidTests := true, laidLooks := .later }
def JobsOnceUptoCardSaid : Prop := Claim7.holds Tryd.pinned (.plain (OpenSpec.upto jobsOnceSpec)) jobsOnceUptoCard
end Rows
end Go.Proofs.YtmgjdbbggajljaaDoor
