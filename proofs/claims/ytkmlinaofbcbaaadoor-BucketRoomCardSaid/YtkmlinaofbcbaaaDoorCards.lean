/-
  DERIVED. GIVEN WITH THE SEED: THE CARDS: each row of YtkmlinaofbcbaaaDoorRows.lean that lists a variable, with what it lists TIED to the program's text (the seventh form; the later family's looks); each row that meets fmt, with fmt's text TOLD by the authors' own Lean function (tested against real Go, not proved from fmt's source: count such statements apart). THE CARD IS WHAT COUNTS. Prove the row's statement (the work); the ties are given (YtkmlinaofbcbaaaDoorTie.lean); close each card by the builder's one call (the guide's Derived/Test/ToyasCard.lean, 'card_holds'). Laid BY PROGRAM, IN A SANDBOX (cutbox-door.mjs). By AI agents, Wed Nov 11 2026. No macro, syntax, notation, axiom, sorry.
-/
import Derived.Test.YtkmlinaofbcbaaaDoorRows
import GoSem.ClaimSeven
namespace Go.Proofs.YtkmlinaofbcbaaaDoor
namespace Rows

/-- THE TIED CARD OF 'butterylaw23.WirePuts'. -/
def wirePutsCard : Claim7 := { stood := { row := wirePutsRow, standIns := [], harness := (true, "8bd5ab1716a5f673289f914c851a8da0f6a5216aed47c29a48116e33e2b2f497"), looks := true }, kinds := [], alts := [], laidByText := true, laidKinds := [.handle], laidTests := true, laidLooks := .later }
def WirePutsCardSaid : Prop := Claim7.holds Tryd.pinned (.plain (OpenSpec.ofChange wirePutsSpec)) wirePutsCard

/-- THE TIED CARD OF 'butterylaw23.WireGets'. -/
def wireGetsCard : Claim7 := { stood := { row := wireGetsRow, standIns := [], harness := (true, "8bd5ab1716a5f673289f914c851a8da0f6a5216aed47c29a48116e33e2b2f497"), looks := true }, kinds := [], alts := [], laidByText := true, laidKinds := [.handle], laidTests := true, laidLooks := .later }
def WireGetsCardSaid : Prop := Claim7.holds Tryd.pinned (.plain (OpenSpec.ofChange wireGetsSpec)) wireGetsCard

/-- THE TIED CARD OF 'butterylaw23.WireBack'. -/
def wireBackCard : Claim7 := { stood := { row := wireBackRow, standIns := [], harness := (true, "8bd5ab1716a5f673289f914c851a8da0f6a5216aed47c29a48116e33e2b2f497"), looks := true }, kinds := [], alts := [], laidByText := true, laidKinds := [.handle], laidTests := true, laidLooks := .later }
def WireBackCardSaid : Prop := Claim7.holds Tryd.pinned (.plain (OpenSpec.ofChange wireBackSpec)) wireBackCard

/-- THE TIED CARD OF 'butterylaw23.WireTurned'. -/
def wireTurnedCard : Claim7 := { stood := { row := wireTurnedRow, standIns := [], harness := (true, "8bd5ab1716a5f673289f914c851a8da0f6a5216aed47c29a48116e33e2b2f497"), looks := true }, kinds := [], alts := [], laidByText := true, laidKinds := [.handle], laidTests := true, laidLooks := .later }
def WireTurnedCardSaid : Prop := Claim7.holds Tryd.pinned (.plain (OpenSpec.ofChange wireTurnedSpec)) wireTurnedCard

/-- THE TIED CARD OF 'butterylaw14.RegionBack'. -/
def regionBackCard : Claim7 := { stood := { row := regionBackRow, standIns := [], harness := (true, "8bd5ab1716a5f673289f914c851a8da0f6a5216aed47c29a48116e33e2b2f497"), looks := true }, kinds := [], alts := [], laidByText := true, laidKinds := [.handle], laidTests := true, laidLooks := .later }
def RegionBackCardSaid : Prop := Claim7.holds Tryd.pinned (.plain (OpenSpec.ofChange regionBackSpec)) regionBackCard

/-- THE TIED CARD OF 'butterylaw14.RegionLays'. -/
def regionLaysCard : Claim7 := { stood := { row := regionLaysRow, standIns := [], harness := (true, "8bd5ab1716a5f673289f914c851a8da0f6a5216aed47c29a48116e33e2b2f497"), looks := true }, kinds := [], alts := [], laidByText := true, laidKinds := [.handle], laidTests := true, laidLooks := .later }
def RegionLaysCardSaid : Prop := Claim7.holds Tryd.pinned (.plain (OpenSpec.ofChange regionLaysSpec)) regionLaysCard

/-- THE TIED CARD OF 'butterylaw12.BucketReads'. -/
def bucketReadsCard : Claim7 := { stood := { row := bucketReadsRow, standIns := [], harness := (true, "8bd5ab1716a5f673289f914c851a8da0f6a5216aed47c29a48116e33e2b2f497"), looks := true }, kinds := [], alts := [], laidByText := true, laidKinds := [.handle], laidTests := true, laidLooks := .later }
def BucketReadsCardSaid : Prop := Claim7.holds Tryd.pinned (.plain (OpenSpec.ofChange bucketReadsSpec)) bucketReadsCard

/-- THE TIED CARD OF 'butterylaw12.BucketDoes'. -/
def bucketDoesCard : Claim7 := { stood := { row := bucketDoesRow, standIns := [], harness := (true, "8bd5ab1716a5f673289f914c851a8da0f6a5216aed47c29a48116e33e2b2f497"), looks := true }, kinds := [], alts := [], laidByText := true, laidKinds := [.handle], laidTests := true, laidLooks := .later }
def BucketDoesCardSaid : Prop := Claim7.holds Tryd.pinned (.plain (OpenSpec.ofChange bucketDoesSpec)) bucketDoesCard

/-- THE TIED CARD OF 'butterylaw12.BucketRoom'. -/
def bucketRoomCard : Claim7 := { stood := { row := bucketRoomRow, standIns := [], harness := (true, "8bd5ab1716a5f673289f914c851a8da0f6a5216aed47c29a48116e33e2b2f497"), looks := true }, kinds := [], alts := [], laidByText := true, laidKinds := [.handle], laidTests := true, laidLooks := .later }
def BucketRoomCardSaid : Prop := Claim7.holds Tryd.pinned (.plain (OpenSpec.ofChange bucketRoomSpec)) bucketRoomCard

/-- THE SECOND FORM's CARD OF 'butterylaw23.WirePuts'. -/
def wirePutsUptoCard : Claim7 := { stood := { row := wirePutsUptoRow, standIns := [], harness := (true, "8bd5ab1716a5f673289f914c851a8da0f6a5216aed47c29a48116e33e2b2f497"), looks := true }, kinds := [], alts := [], laidByText := true, laidKinds := [.handle], laidTests := true, laidLooks := .later }
def WirePutsUptoCardSaid : Prop := Claim7.holds Tryd.pinned (.plain (OpenSpec.upto wirePutsSpec)) wirePutsUptoCard

/-- THE SECOND FORM's CARD OF 'butterylaw23.WireGets'. -/
def wireGetsUptoCard : Claim7 := { stood := { row := wireGetsUptoRow, standIns := [], harness := (true, "8bd5ab1716a5f673289f914c851a8da0f6a5216aed47c29a48116e33e2b2f497"), looks := true }, kinds := [], alts := [], laidByText := true, laidKinds := [.handle], laidTests := true, laidLooks := .later }
def WireGetsUptoCardSaid : Prop := Claim7.holds Tryd.pinned (.plain (OpenSpec.upto wireGetsSpec)) wireGetsUptoCard

/-- THE SECOND FORM's CARD OF 'butterylaw23.WireBack'. -/
def wireBackUptoCard : Claim7 := { stood := { row := wireBackUptoRow, standIns := [], harness := (true, "8bd5ab1716a5f673289f914c851a8da0f6a5216aed47c29a48116e33e2b2f497"), looks := true }, kinds := [], alts := [], laidByText := true, laidKinds := [.handle], laidTests := true, laidLooks := .later }
def WireBackUptoCardSaid : Prop := Claim7.holds Tryd.pinned (.plain (OpenSpec.upto wireBackSpec)) wireBackUptoCard

/-- THE SECOND FORM's CARD OF 'butterylaw23.WireTurned'. -/
def wireTurnedUptoCard : Claim7 := { stood := { row := wireTurnedUptoRow, standIns := [], harness := (true, "8bd5ab1716a5f673289f914c851a8da0f6a5216aed47c29a48116e33e2b2f497"), looks := true }, kinds := [], alts := [], laidByText := true, laidKinds := [.handle], laidTests := true, laidLooks := .later }
def WireTurnedUptoCardSaid : Prop := Claim7.holds Tryd.pinned (.plain (OpenSpec.upto wireTurnedSpec)) wireTurnedUptoCard

/-- THE SECOND FORM's CARD OF 'butterylaw14.RegionBack'. -/
def regionBackUptoCard : Claim7 := { stood := { row := regionBackUptoRow, standIns := [], harness := (true, "8bd5ab1716a5f673289f914c851a8da0f6a5216aed47c29a48116e33e2b2f497"), looks := true }, kinds := [], alts := [], laidByText := true, laidKinds := [.handle], laidTests := true, laidLooks := .later }
def RegionBackUptoCardSaid : Prop := Claim7.holds Tryd.pinned (.plain (OpenSpec.upto regionBackSpec)) regionBackUptoCard

/-- THE SECOND FORM's CARD OF 'butterylaw14.RegionLays'. -/
def regionLaysUptoCard : Claim7 := { stood := { row := regionLaysUptoRow, standIns := [], harness := (true, "8bd5ab1716a5f673289f914c851a8da0f6a5216aed47c29a48116e33e2b2f497"), looks := true }, kinds := [], alts := [], laidByText := true, laidKinds := [.handle], laidTests := true, laidLooks := .later }
def RegionLaysUptoCardSaid : Prop := Claim7.holds Tryd.pinned (.plain (OpenSpec.upto regionLaysSpec)) regionLaysUptoCard

/-- THE SECOND FORM's CARD OF 'butterylaw12.BucketReads'. -/
def bucketReadsUptoCard : Claim7 := { stood := { row := bucketReadsUptoRow, standIns := [], harness := (true, "8bd5ab1716a5f673289f914c851a8da0f6a5216aed47c29a48116e33e2b2f497"), looks := true }, kinds := [], alts := [], laidByText := true, laidKinds := [.handle], laidTests := true, laidLooks := .later }
def BucketReadsUptoCardSaid : Prop := Claim7.holds Tryd.pinned (.plain (OpenSpec.upto bucketReadsSpec)) bucketReadsUptoCard

/-- THE SECOND FORM's CARD OF 'butterylaw12.BucketDoes'. -/
def bucketDoesUptoCard : Claim7 := { stood := { row := bucketDoesUptoRow, standIns := [], harness := (true, "8bd5ab1716a5f673289f914c851a8da0f6a5216aed47c29a48116e33e2b2f497"), looks := true }, kinds := [], alts := [], laidByText := true, laidKinds := [.handle], laidTests := true, laidLooks := .later }
def BucketDoesUptoCardSaid : Prop := Claim7.holds Tryd.pinned (.plain (OpenSpec.upto bucketDoesSpec)) bucketDoesUptoCard

/-- THE SECOND FORM's CARD OF 'butterylaw12.BucketRoom'. -/
def bucketRoomUptoCard : Claim7 := { stood := { row := bucketRoomUptoRow, standIns := [], harness := (true, "8bd5ab1716a5f673289f914c851a8da0f6a5216aed47c29a48116e33e2b2f497"), looks := true }, kinds := [], alts := [], laidByText := true, laidKinds := [.handle], laidTests := true, laidLooks := .later }
def BucketRoomUptoCardSaid : Prop := Claim7.holds Tryd.pinned (.plain (OpenSpec.upto bucketRoomSpec)) bucketRoomUptoCard
end Rows
end Go.Proofs.YtkmlinaofbcbaaaDoor
