/-
  DERIVED. GIVEN WITH THE SEED: THE CARDS: each row of YtedcgeghgbgonaaDoorRows.lean that lists a variable, with what it lists TIED to the program's text (the seventh form; the later family's looks); each row that meets fmt, with fmt's text TOLD by the authors' own Lean function (tested against real Go, not proved from fmt's source: count such statements apart). THE CARD IS WHAT COUNTS. Prove the row's statement (the work); the ties are given (YtedcgeghgbgonaaDoorTie.lean); close each card by the builder's one call (the guide's Derived/Test/ToyasCard.lean, 'card_holds'). Laid BY PROGRAM, IN A SANDBOX (cutbox-door.mjs). By AI agents, Wed Nov 11 2026. No macro, syntax, notation, axiom, sorry.
-/
import Derived.Test.YtedcgeghgbgonaaDoorRows
import GoSem.ClaimSeven
namespace Go.Proofs.YtedcgeghgbgonaaDoor
namespace Rows

/-- THE TIED CARD OF 'butterylaw26.LinesHonest'. -/
def linesHonestCard : Claim7 := { stood := { row := linesHonestRow, standIns := [], harness := (true, "b2512e3243edd13be985cdb2e741b02164dea5f25463a45b9972ba086246c93a"), looks := true }, kinds := [], alts := [], laidByText := true, laidKinds := [.handle], laidTests := true, laidLooks := .later }
def LinesHonestCardSaid : Prop := Claim7.holds Tryd.pinned (.plain (OpenSpec.ofChange linesHonestSpec)) linesHonestCard

/-- THE SECOND FORM's CARD OF 'butterylaw26.LinesHonest'. -/
def linesHonestUptoCard : Claim7 := { stood := { row := linesHonestUptoRow, standIns := [], harness := (true, "b2512e3243edd13be985cdb2e741b02164dea5f25463a45b9972ba086246c93a"), looks := true }, kinds := [], alts := [], laidByText := true, laidKinds := [.handle], laidTests := true, laidLooks := .later }
def LinesHonestUptoCardSaid : Prop := Claim7.holds Tryd.pinned (.plain (OpenSpec.upto linesHonestSpec)) linesHonestUptoCard
end Rows
end Go.Proofs.YtedcgeghgbgonaaDoor
