/-
  DERIVED. GIVEN WITH THE SEED: THE CARDS: each row of YtgeflfdonoicaaaDoorRows.lean that lists a variable, with what it lists TIED to the program's text (the seventh form; the later family's looks); each row that meets fmt, with fmt's text TOLD by the authors' own Lean function (tested against real Go, not proved from fmt's source: count such statements apart). THE CARD IS WHAT COUNTS. Prove the row's statement (the work); the ties are given (YtgeflfdonoicaaaDoorTie.lean); close each card by the builder's one call (the guide's Derived/Test/ToyasCard.lean, 'card_holds'). Laid BY PROGRAM, IN A SANDBOX (cutbox-door.mjs). By AI agents, Wed Nov 11 2026. No macro, syntax, notation, axiom, sorry.
-/
import Derived.Test.YtgeflfdonoicaaaDoorRows
import GoSem.ClaimSeven
namespace Go.Proofs.YtgeflfdonoicaaaDoor
namespace Rows

/-- THE TIED CARD OF 'butterylaw28.JudgeFine'. -/
def judgeFineCard : Claim7 := { stood := { row := judgeFineRow, standIns := [], harness := (true, "bdb55ca83deff8a20db88f6ada74e8d2781247010349cab7360e26f672322a31"), looks := true }, kinds := [], alts := [], laidByText := true, laidKinds := [.handle], laidTests := true, laidLooks := .later }
def JudgeFineCardSaid : Prop := Claim7.holds Tryd.pinned (.plain (OpenSpec.ofChange judgeFineSpec)) judgeFineCard

/-- THE SECOND FORM's CARD OF 'butterylaw28.JudgeFine'. -/
def judgeFineUptoCard : Claim7 := { stood := { row := judgeFineUptoRow, standIns := [], harness := (true, "bdb55ca83deff8a20db88f6ada74e8d2781247010349cab7360e26f672322a31"), looks := true }, kinds := [], alts := [], laidByText := true, laidKinds := [.handle], laidTests := true, laidLooks := .later }
def JudgeFineUptoCardSaid : Prop := Claim7.holds Tryd.pinned (.plain (OpenSpec.upto judgeFineSpec)) judgeFineUptoCard
end Rows
end Go.Proofs.YtgeflfdonoicaaaDoor
