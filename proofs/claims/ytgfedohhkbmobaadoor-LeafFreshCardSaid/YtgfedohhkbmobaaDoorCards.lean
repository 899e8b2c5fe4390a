/-
  DERIVED. GIVEN WITH THE SEED: THE CARDS: each row of YtgfedohhkbmobaaDoorRows.lean that lists a variable, with what it lists TIED to the program's text (the seventh form; the later family's looks); each row that meets fmt, with fmt's text TOLD by the authors' own Lean function (tested against real Go, not proved from fmt's source: count such statements apart). THE CARD IS WHAT COUNTS. Prove the row's statement (the work); the ties are given (YtgfedohhkbmobaaDoorTie.lean); close each card by the builder's one call (the guide's Derived/Test/ToyasCard.lean, 'card_holds'). Laid BY PROGRAM, IN A SANDBOX (cutbox-door.mjs). By AI agents, Wed Nov 11 2026. No macro, syntax, notation, axiom, sorry.
-/
import Derived.Test.YtgfedohhkbmobaaDoorRows
import GoSem.ClaimSeven
namespace Go.Proofs.YtgfedohhkbmobaaDoor
namespace Rows

/-- THE TIED CARD OF 'butterylaw05.LeafPuts'. -/
def leafPutsCard : Claim7 := { stood := { row := leafPutsRow, standIns := [], harness := (true, "47bd27851ff5e1107c2272fd4692f399a5af6bb676ca7b6c066ac00eccce754d"), looks := true }, kinds := [], alts := [], laidByText := true, laidKinds := [.handle], laidTests := true, laidLooks := .later }
def LeafPutsCardSaid : Prop := Claim7.holds Tryd.pinned (.plain (OpenSpec.ofChange leafPutsSpec)) leafPutsCard

/-- THE TIED CARD OF 'butterylaw05.LeafGets'. -/
def leafGetsCard : Claim7 := { stood := { row := leafGetsRow, standIns := [], harness := (true, "47bd27851ff5e1107c2272fd4692f399a5af6bb676ca7b6c066ac00eccce754d"), looks := true }, kinds := [], alts := [], laidByText := true, laidKinds := [.handle], laidTests := true, laidLooks := .later }
def LeafGetsCardSaid : Prop := Claim7.holds Tryd.pinned (.plain (OpenSpec.ofChange leafGetsSpec)) leafGetsCard

/-- THE TIED CARD OF 'butterylaw05.LeafBack'. -/
def leafBackCard : Claim7 := { stood := { row := leafBackRow, standIns := [], harness := (true, "47bd27851ff5e1107c2272fd4692f399a5af6bb676ca7b6c066ac00eccce754d"), looks := true }, kinds := [], alts := [], laidByText := true, laidKinds := [.handle], laidTests := true, laidLooks := .later }
def LeafBackCardSaid : Prop := Claim7.holds Tryd.pinned (.plain (OpenSpec.ofChange leafBackSpec)) leafBackCard

/-- THE TIED CARD OF 'butterylaw05.LeafTorn'. -/
def leafTornCard : Claim7 := { stood := { row := leafTornRow, standIns := [], harness := (true, "47bd27851ff5e1107c2272fd4692f399a5af6bb676ca7b6c066ac00eccce754d"), looks := true }, kinds := [], alts := [], laidByText := true, laidKinds := [.handle], laidTests := true, laidLooks := .later }
def LeafTornCardSaid : Prop := Claim7.holds Tryd.pinned (.plain (OpenSpec.ofChange leafTornSpec)) leafTornCard

/-- THE TIED CARD OF 'butterylaw05.LeafFresh'. -/
def leafFreshCard : Claim7 := { stood := { row := leafFreshRow, standIns := [], harness := (true, "47bd27851ff5e1107c2272fd4692f399a5af6bb676ca7b6c066ac00eccce754d"), looks := true }, kinds := [], alts := [], laidByText := true, laidKinds := [.handle], laidTests := true, laidLooks := .later }
def LeafFreshCardSaid : Prop := Claim7.holds Tryd.pinned (.plain (OpenSpec.ofChange leafFreshSpec)) leafFreshCard

/-- THE TIED CARD OF 'butterylaw06.ItemChecks'. -/
def itemChecksCard : Claim7 := { stood := { row := itemChecksRow, standIns := [], harness := (true, "47bd27851ff5e1107c2272fd4692f399a5af6bb676ca7b6c066ac00eccce754d"), looks := true }, kinds := [], alts := [], laidByText := true, laidKinds := [.handle], laidTests := true, laidLooks := .later }
def ItemChecksCardSaid : Prop := Claim7.holds Tryd.pinned (.plain (OpenSpec.ofChange itemChecksSpec)) itemChecksCard

/-- THE TIED CARD OF 'butterylaw06.ItemFrom'. -/
def itemFromCard : Claim7 := { stood := { row := itemFromRow, standIns := [], harness := (true, "47bd27851ff5e1107c2272fd4692f399a5af6bb676ca7b6c066ac00eccce754d"), looks := true }, kinds := [], alts := [], laidByText := true, laidKinds := [.handle], laidTests := true, laidLooks := .later }
def ItemFromCardSaid : Prop := Claim7.holds Tryd.pinned (.plain (OpenSpec.ofChange itemFromSpec)) itemFromCard

/-- THE TIED CARD OF 'butterylaw06.ItemReads'. -/
def itemReadsCard : Claim7 := { stood := { row := itemReadsRow, standIns := [], harness := (true, "47bd27851ff5e1107c2272fd4692f399a5af6bb676ca7b6c066ac00eccce754d"), looks := true }, kinds := [], alts := [], laidByText := true, laidKinds := [.handle], laidTests := true, laidLooks := .later }
def ItemReadsCardSaid : Prop := Claim7.holds Tryd.pinned (.plain (OpenSpec.ofChange itemReadsSpec)) itemReadsCard

/-- THE TIED CARD OF 'butterylaw06.ItemBack'. -/
def itemBackCard : Claim7 := { stood := { row := itemBackRow, standIns := [], harness := (true, "47bd27851ff5e1107c2272fd4692f399a5af6bb676ca7b6c066ac00eccce754d"), looks := true }, kinds := [], alts := [], laidByText := true, laidKinds := [.handle], laidTests := true, laidLooks := .later }
def ItemBackCardSaid : Prop := Claim7.holds Tryd.pinned (.plain (OpenSpec.ofChange itemBackSpec)) itemBackCard

/-- THE SECOND FORM's CARD OF 'butterylaw05.LeafPuts'. -/
def leafPutsUptoCard : Claim7 := { stood := { row := leafPutsUptoRow, standIns := [], harness := (true, "47bd27851ff5e1107c2272fd4692f399a5af6bb676ca7b6c066ac00eccce754d"), looks := true }, kinds := [], alts := [], laidByText := true, laidKinds := [.handle], laidTests := true, laidLooks := .later }
def LeafPutsUptoCardSaid : Prop := Claim7.holds Tryd.pinned (.plain (OpenSpec.upto leafPutsSpec)) leafPutsUptoCard

/-- THE SECOND FORM's CARD OF 'butterylaw05.LeafGets'. -/
def leafGetsUptoCard : Claim7 := { stood := { row := leafGetsUptoRow, standIns := [], harness := (true, "47bd27851ff5e1107c2272fd4692f399a5af6bb676ca7b6c066ac00eccce754d"), looks := true }, kinds := [], alts := [], laidByText := true, laidKinds := [.handle], laidTests := true, laidLooks := .later }
def LeafGetsUptoCardSaid : Prop := Claim7.holds Tryd.pinned (.plain (OpenSpec.upto leafGetsSpec)) leafGetsUptoCard

/-- THE SECOND FORM's CARD OF 'butterylaw05.LeafBack'. -/
def leafBackUptoCard : Claim7 := { stood := { row := leafBackUptoRow, standIns := [], harness := (true, "47bd27851ff5e1107c2272fd4692f399a5af6bb676ca7b6c066ac00eccce754d"), looks := true }, kinds := [], alts := [], laidByText := true, laidKinds := [.handle], laidTests := true, laidLooks := .later }
def LeafBackUptoCardSaid : Prop := Claim7.holds Tryd.pinned (.plain (OpenSpec.upto leafBackSpec)) leafBackUptoCard

/-- THE SECOND FORM's CARD OF 'butterylaw05.LeafTorn'. -/
def leafTornUptoCard : Claim7 := { stood := { row := leafTornUptoRow, standIns := [], harness := (true, "47bd27851ff5e1107c2272fd4692f399a5af6bb676ca7b6c066ac00eccce754d"), looks := true }, kinds := [], alts := [], laidByText := true, laidKinds := [.handle], laidTests := true, laidLooks := .later }
def LeafTornUptoCardSaid : Prop := Claim7.holds Tryd.pinned (.plain (OpenSpec.upto leafTornSpec)) leafTornUptoCard

/-- THE SECOND FORM's CARD OF 'butterylaw05.LeafFresh'. -/
def leafFreshUptoCard : Claim7 := { stood := { row := leafFreshUptoRow, standIns := [], harness := (true, "47bd27851ff5e1107c2272fd4692f399a5af6bb676ca7b6c066ac00eccce754d"), looks := true }, kinds := [], alts := [], laidByText := true, laidKinds := [.handle], laidTests := true, laidLooks := .later }
def LeafFreshUptoCardSaid : Prop := Claim7.holds Tryd.pinned (.plain (OpenSpec.upto leafFreshSpec)) leafFreshUptoCard

/-- THE SECOND FORM's CARD OF 'butterylaw06.ItemChecks'. -/
def itemChecksUptoCard : Claim7 := { stood := { row := itemChecksUptoRow, standIns := [], harness := (true, "47bd27851ff5e1107c2272fd4692f399a5af6bb676ca7b6c066ac00eccce754d"), looks := true }, kinds := [], alts := [], laidByText := true, laidKinds := [.handle], laidTests := true, laidLooks := .later }
def ItemChecksUptoCardSaid : Prop := Claim7.holds Tryd.pinned (.plain (OpenSpec.upto itemChecksSpec)) itemChecksUptoCard

/-- THE SECOND FORM's CARD OF 'butterylaw06.ItemFrom'. -/
def itemFromUptoCard : Claim7 := { stood := { row := itemFromUptoRow, standIns := [], harness := (true, "47bd27851ff5e1107c2272fd4692f399a5af6bb676ca7b6c066ac00eccce754d"), looks := true }, kinds := [], alts := [], laidByText := true, laidKinds := [.handle], laidTests := true, laidLooks := .later }
def ItemFromUptoCardSaid : Prop := Claim7.holds Tryd.pinned (.plain (OpenSpec.upto itemFromSpec)) itemFromUptoCard

/-- THE SECOND FORM's CARD OF 'butterylaw06.ItemReads'. -/
def itemReadsUptoCard : Claim7 := { stood := { row := itemReadsUptoRow, standIns := [], harness := (true, "47bd27851ff5e1107c2272fd4692f399a5af6bb676ca7b6c066ac00eccce754d"), looks := true }, kinds := [], alts := [], laidByText := true, laidKinds := [.handle], laidTests := true, laidLooks := .later }
def ItemReadsUptoCardSaid : Prop := Claim7.holds Tryd.pinned (.plain (OpenSpec.upto itemReadsSpec)) itemReadsUptoCard

/-- THE SECOND FORM's CARD OF 'butterylaw06.ItemBack'. -/
def itemBackUptoCard : Claim7 := { stood := { row := itemBackUptoRow, standIns := [], harness := (true, "47bd27851ff5e1107c2272fd4692f399a5af6bb676ca7b6c066ac00eccce754d"), looks := true }, kinds := [], alts := [], laidByText := true, laidKinds := [.handle], laidTests := true, laidLooks := .later }
def ItemBackUptoCardSaid : Prop := Claim7.holds Tryd.pinned (.plain (OpenSpec.upto itemBackSpec)) itemBackUptoCard
end Rows
end Go.Proofs.YtgfedohhkbmobaaDoor
