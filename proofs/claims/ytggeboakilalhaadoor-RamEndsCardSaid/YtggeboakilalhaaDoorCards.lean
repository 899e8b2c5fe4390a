/-
  DERIVED. GIVEN WITH THE SEED: THE CARDS: each row of YtggeboakilalhaaDoorRows.lean that lists a variable, with what it lists TIED to the program's text (the seventh form; the later family's looks); each row that meets fmt, with fmt's text TOLD by the authors' own Lean function (tested against real Go, not proved from fmt's source: count such statements apart). THE CARD IS WHAT COUNTS. Prove the row's statement (the work); the ties are given (YtggeboakilalhaaDoorTie.lean); close each card by the builder's one call (the guide's Derived/Test/ToyasCard.lean, 'card_holds'). Laid BY PROGRAM, IN A SANDBOX (cutbox-door.mjs). By AI agents, Wed Nov 11 2026. No macro, syntax, notation, axiom, sorry.
-/
import Derived.Test.YtggeboakilalhaaDoorRows
import GoSem.ClaimSeven
namespace Go.Proofs.YtggeboakilalhaaDoor
namespace Rows

/-- THE TIED CARD OF 'butterylaw11.RamBounds'. -/
def ramBoundsCard : Claim7 := { stood := { row := ramBoundsRow, standIns := [], harness := (true, "750d622a7ec44e521bc84ab4dc0ede8fc2689b036d285aef09c3a174158f54ce"), looks := true }, kinds := [], alts := [], laidByText := true, laidKinds := [.handle], laidTests := true, laidLooks := .later }
def RamBoundsCardSaid : Prop := Claim7.holds Tryd.pinned (.plain (OpenSpec.ofChange ramBoundsSpec)) ramBoundsCard

/-- THE TIED CARD OF 'butterylaw11.RamKeeps'. -/
def ramKeepsCard : Claim7 := { stood := { row := ramKeepsRow, standIns := [], harness := (true, "750d622a7ec44e521bc84ab4dc0ede8fc2689b036d285aef09c3a174158f54ce"), looks := true }, kinds := [], alts := [], laidByText := true, laidKinds := [.handle], laidTests := true, laidLooks := .later }
def RamKeepsCardSaid : Prop := Claim7.holds Tryd.pinned (.plain (OpenSpec.ofChange ramKeepsSpec)) ramKeepsCard

/-- THE TIED CARD OF 'butterylaw11.RamEnds'. -/
def ramEndsCard : Claim7 := { stood := { row := ramEndsRow, standIns := [], harness := (true, "750d622a7ec44e521bc84ab4dc0ede8fc2689b036d285aef09c3a174158f54ce"), looks := true }, kinds := [], alts := [], laidByText := true, laidKinds := [.handle], laidTests := true, laidLooks := .later }
def RamEndsCardSaid : Prop := Claim7.holds Tryd.pinned (.plain (OpenSpec.ofChange ramEndsSpec)) ramEndsCard

/-- THE SECOND FORM's CARD OF 'butterylaw11.RamBounds'. -/
def ramBoundsUptoCard : Claim7 := { stood := { row := ramBoundsUptoRow, standIns := [], harness := (true, "750d622a7ec44e521bc84ab4dc0ede8fc2689b036d285aef09c3a174158f54ce"), looks := true }, kinds := [], alts := [], laidByText := true, laidKinds := [.handle], laidTests := true, laidLooks := .later }
def RamBoundsUptoCardSaid : Prop := Claim7.holds Tryd.pinned (.plain (OpenSpec.upto ramBoundsSpec)) ramBoundsUptoCard

/-- THE SECOND FORM's CARD OF 'butterylaw11.RamKeeps'. -/
def ramKeepsUptoCard : Claim7 := { stood := { row := ramKeepsUptoRow, standIns := [], harness := (true, "750d622a7ec44e521bc84ab4dc0ede8fc2689b036d285aef09c3a174158f54ce"), looks := true }, kinds := [], alts := [], laidByText := true, laidKinds := [.handle], laidTests := true, laidLooks := .later }
def RamKeepsUptoCardSaid : Prop := Claim7.holds Tryd.pinned (.plain (OpenSpec.upto ramKeepsSpec)) ramKeepsUptoCard

/-- THE SECOND FORM's CARD OF 'butterylaw11.RamEnds'. -/
def ramEndsUptoCard : Claim7 := { stood := { row := ramEndsUptoRow, standIns := [], harness := (true, "750d622a7ec44e521bc84ab4dc0ede8fc2689b036d285aef09c3a174158f54ce"), looks := true }, kinds := [], alts := [], laidByText := true, laidKinds := [.handle], laidTests := true, laidLooks := .later }
def RamEndsUptoCardSaid : Prop := Claim7.holds Tryd.pinned (.plain (OpenSpec.upto ramEndsSpec)) ramEndsUptoCard
end Rows
end Go.Proofs.YtggeboakilalhaaDoor
