/-
  DERIVED. GIVEN WITH THE SEED: THE CARDS: each row of YtekldjimdmkgaaaDoorRows.lean that lists a variable, with what it lists TIED to the program's text (the seventh form; the later family's looks); each row that meets fmt, with fmt's text TOLD by the authors' own Lean function (tested against real Go, not proved from fmt's source: count such statements apart). THE CARD IS WHAT COUNTS. Prove the row's statement (the work); the ties are given (YtekldjimdmkgaaaDoorTie.lean); close each card by the builder's one call (the guide's Derived/Test/ToyasCard.lean, 'card_holds'). Laid BY PROGRAM, IN A SANDBOX (cutbox-door.mjs). By AI agents, Wed Nov 11 2026. No macro, syntax, notation, axiom, sorry.
-/
import Derived.Test.YtekldjimdmkgaaaDoorRows
import GoSem.ClaimSeven
namespace Go.Proofs.YtekldjimdmkgaaaDoor
namespace Rows

/-- THE TIED CARD OF 'butterylaw01.TroubleTells'. -/
def troubleTellsCard : Claim7 := { stood := { row := troubleTellsRow, standIns := [], harness := (true, "09de986a61cb6d53c560ed45da07a0efb253a7296b424f2cdc6e86011c82d329"), looks := true }, kinds := [], alts := [], laidByText := true, laidKinds := [.handle], laidTests := true, laidLooks := .later }
def TroubleTellsCardSaid : Prop := Claim7.holds Tryd.pinned (.plain (OpenSpec.ofChange troubleTellsSpec)) troubleTellsCard

/-- THE TIED CARD OF 'butterylaw01.TroubleHas'. -/
def troubleHasCard : Claim7 := { stood := { row := troubleHasRow, standIns := [], harness := (true, "09de986a61cb6d53c560ed45da07a0efb253a7296b424f2cdc6e86011c82d329"), looks := true }, kinds := [], alts := [], laidByText := true, laidKinds := [.handle], laidTests := true, laidLooks := .later }
def TroubleHasCardSaid : Prop := Claim7.holds Tryd.pinned (.plain (OpenSpec.ofChange troubleHasSpec)) troubleHasCard

/-- THE TIED CARD OF 'butterylaw01.TroubleWraps'. -/
def troubleWrapsCard : Claim7 := { stood := { row := troubleWrapsRow, standIns := [], harness := (true, "09de986a61cb6d53c560ed45da07a0efb253a7296b424f2cdc6e86011c82d329"), looks := true }, kinds := [], alts := [], laidByText := true, laidKinds := [.handle], laidTests := true, laidLooks := .later }
def TroubleWrapsCardSaid : Prop := Claim7.holds Tryd.pinned (.plain (OpenSpec.ofChange troubleWrapsSpec)) troubleWrapsCard

/-- THE TIED CARD OF 'butterylaw01.TroubleBoth'. -/
def troubleBothCard : Claim7 := { stood := { row := troubleBothRow, standIns := [], harness := (true, "09de986a61cb6d53c560ed45da07a0efb253a7296b424f2cdc6e86011c82d329"), looks := true }, kinds := [], alts := [], laidByText := true, laidKinds := [.handle], laidTests := true, laidLooks := .later }
def TroubleBothCardSaid : Prop := Claim7.holds Tryd.pinned (.plain (OpenSpec.ofChange troubleBothSpec)) troubleBothCard

/-- THE SECOND FORM's CARD OF 'butterylaw01.TroubleTells'. -/
def troubleTellsUptoCard : Claim7 := { stood := { row := troubleTellsUptoRow, standIns := [], harness := (true, "09de986a61cb6d53c560ed45da07a0efb253a7296b424f2cdc6e86011c82d329"), looks := true }, kinds := [], alts := [], laidByText := true, laidKinds := [.handle], laidTests := true, laidLooks := .later }
def TroubleTellsUptoCardSaid : Prop := Claim7.holds Tryd.pinned (.plain (OpenSpec.upto troubleTellsSpec)) troubleTellsUptoCard

/-- THE SECOND FORM's CARD OF 'butterylaw01.TroubleHas'. -/
def troubleHasUptoCard : Claim7 := { stood := { row := troubleHasUptoRow, standIns := [], harness := (true, "09de986a61cb6d53c560ed45da07a0efb253a7296b424f2cdc6e86011c82d329"), looks := true }, kinds := [], alts := [], laidByText := true, laidKinds := [.handle], laidTests := true, laidLooks := .later }
def TroubleHasUptoCardSaid : Prop := Claim7.holds Tryd.pinned (.plain (OpenSpec.upto troubleHasSpec)) troubleHasUptoCard

/-- THE SECOND FORM's CARD OF 'butterylaw01.TroubleWraps'. -/
def troubleWrapsUptoCard : Claim7 := { stood := { row := troubleWrapsUptoRow, standIns := [], harness := (true, "09de986a61cb6d53c560ed45da07a0efb253a7296b424f2cdc6e86011c82d329"), looks := true }, kinds := [], alts := [], laidByText := true, laidKinds := [.handle], laidTests := true, laidLooks := .later }
def TroubleWrapsUptoCardSaid : Prop := Claim7.holds Tryd.pinned (.plain (OpenSpec.upto troubleWrapsSpec)) troubleWrapsUptoCard

/-- THE SECOND FORM's CARD OF 'butterylaw01.TroubleBoth'. -/
def troubleBothUptoCard : Claim7 := { stood := { row := troubleBothUptoRow, standIns := [], harness := (true, "09de986a61cb6d53c560ed45da07a0efb253a7296b424f2cdc6e86011c82d329"), looks := true }, kinds := [], alts := [], laidByText := true, laidKinds := [.handle], laidTests := true, laidLooks := .later }
def TroubleBothUptoCardSaid : Prop := Claim7.holds Tryd.pinned (.plain (OpenSpec.upto troubleBothSpec)) troubleBothUptoCard
end Rows
end Go.Proofs.YtekldjimdmkgaaaDoor
