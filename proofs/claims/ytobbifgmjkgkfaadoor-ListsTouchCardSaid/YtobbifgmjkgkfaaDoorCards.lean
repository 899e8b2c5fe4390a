/-
  DERIVED. GIVEN WITH THE SEED: THE CARDS: each row of YtobbifgmjkgkfaaDoorRows.lean that lists a variable, with what it lists TIED to the program's text (the seventh form; the later family's looks); each row that meets fmt, with fmt's text TOLD by the authors' own Lean function (tested against real Go, not proved from fmt's source: count such statements apart). THE CARD IS WHAT COUNTS. Prove the row's statement (the work); the ties are given (YtobbifgmjkgkfaaDoorTie.lean); close each card by the builder's one call (the guide's Derived/Test/ToyasCard.lean, 'card_holds'). Laid BY PROGRAM, IN A SANDBOX (cutbox-door.mjs). By AI agents, Wed Nov 11 2026. No macro, syntax, notation, axiom, sorry.
-/
import Derived.Test.YtobbifgmjkgkfaaDoorRows
import GoSem.ClaimSeven
namespace Go.Proofs.YtobbifgmjkgkfaaDoor
namespace Rows

/-- THE TIED CARD OF 'butterylaw19.JobsDoes'. -/
def jobsDoesCard : Claim7 := { stood := { row := jobsDoesRow, standIns := [], harness := (true, "d5686bebc9a562a64c3628ce0f6036f5db4fc94ea739164cb8147f5c791c9c52"), looks := true }, kinds := [], alts := [], laidByText := true, laidKinds := [.handle], laidTests := true, laidLooks := .later }
def JobsDoesCardSaid : Prop := Claim7.holds Tryd.pinned (.plain (OpenSpec.ofChange jobsDoesSpec)) jobsDoesCard

/-- THE TIED CARD OF 'butterylaw19.JobsOnce'. -/
def jobsOnceCard : Claim7 := { stood := { row := jobsOnceRow, standIns := [], harness := (true, "d5686bebc9a562a64c3628ce0f6036f5db4fc94ea739164cb8147f5c791c9c52"), looks := true }, kinds := [], alts := [], laidByText := true, laidKinds := [.handle], laidTests := true, laidLooks := .later }
def JobsOnceCardSaid : Prop := Claim7.holds Tryd.pinned (.plain (OpenSpec.ofChange jobsOnceSpec)) jobsOnceCard

/-- THE TIED CARD OF 'butterylaw09.ListsDoes'. -/
def listsDoesCard : Claim7 := { stood := { row := listsDoesRow, standIns := [], harness := (true, "d5686bebc9a562a64c3628ce0f6036f5db4fc94ea739164cb8147f5c791c9c52"), looks := true }, kinds := [], alts := [], laidByText := true, laidKinds := [.handle], laidTests := true, laidLooks := .later }
def ListsDoesCardSaid : Prop := Claim7.holds Tryd.pinned (.plain (OpenSpec.ofChange listsDoesSpec)) listsDoesCard

/-- THE TIED CARD OF 'butterylaw09.ListsSound'. -/
def listsSoundCard : Claim7 := { stood := { row := listsSoundRow, standIns := [], harness := (true, "d5686bebc9a562a64c3628ce0f6036f5db4fc94ea739164cb8147f5c791c9c52"), looks := true }, kinds := [], alts := [], laidByText := true, laidKinds := [.handle], laidTests := true, laidLooks := .later }
def ListsSoundCardSaid : Prop := Claim7.holds Tryd.pinned (.plain (OpenSpec.ofChange listsSoundSpec)) listsSoundCard

/-- THE TIED CARD OF 'butterylaw09.ListsTouch'. -/
def listsTouchCard : Claim7 := { stood := { row := listsTouchRow, standIns := [], harness := (true, "d5686bebc9a562a64c3628ce0f6036f5db4fc94ea739164cb8147f5c791c9c52"), looks := true }, kinds := [], alts := [], laidByText := true, laidKinds := [.handle], laidTests := true, laidLooks := .later }
def ListsTouchCardSaid : Prop := Claim7.holds Tryd.pinned (.plain (OpenSpec.ofChange listsTouchSpec)) listsTouchCard

/-- THE SECOND FORM's CARD OF 'butterylaw19.JobsDoes'. -/
def jobsDoesUptoCard : Claim7 := { stood := { row := jobsDoesUptoRow, standIns := [], harness := (true, "d5686bebc9a562a64c3628ce0f6036f5db4fc94ea739164cb8147f5c791c9c52"), looks := true }, kinds := [], alts := [], laidByText := true, laidKinds := [.handle], laidTests := true, laidLooks := .later }
def JobsDoesUptoCardSaid : Prop := Claim7.holds Tryd.pinned (.plain (OpenSpec.upto jobsDoesSpec)) jobsDoesUptoCard

/-- THE SECOND FORM's CARD OF 'butterylaw19.JobsOnce'. -/
def jobsOnceUptoCard : Claim7 := { stood := { row := jobsOnceUptoRow, standIns := [], harness := (true, "d5686bebc9a562a64c3628ce0f6036f5db4fc94ea739164cb8147f5c791c9c52"), looks := true }, kinds := [], alts := [], laidByText := true, laidKinds := [.handle], laidTests := true, laidLooks := .later }
def JobsOnceUptoCardSaid : Prop := Claim7.holds Tryd.pinned (.plain (OpenSpec.upto jobsOnceSpec)) jobsOnceUptoCard

/-- THE SECOND FORM's CARD OF 'butterylaw09.ListsDoes'. -/
def listsDoesUptoCard : Claim7 := { stood := { row := listsDoesUptoRow, standIns := [], harness := (true, "d5686bebc9a562a64c3628ce0f6036f5db4fc94ea739164cb8147f5c791c9c52"), looks := true }, kinds := [], alts := [], laidByText := true, laidKinds := [.handle], laidTests := true, laidLooks := .later }
def ListsDoesUptoCardSaid : Prop := Claim7.holds Tryd.pinned (.plain (OpenSpec.upto listsDoesSpec)) listsDoesUptoCard

/-- THE SECOND FORM's CARD OF 'butterylaw09.ListsSound'. -/
def listsSoundUptoCard : Claim7 := { stood := { row := listsSoundUptoRow, standIns := [], harness := (true, "d5686bebc9a562a64c3628ce0f6036f5db4fc94ea739164cb8147f5c791c9c52"), looks := true }, kinds := [], alts := [], laidByText := true, laidKinds := [.handle], laidTests := true, laidLooks := .later }
def ListsSoundUptoCardSaid : Prop := Claim7.holds Tryd.pinned (.plain (OpenSpec.upto listsSoundSpec)) listsSoundUptoCard

/-- THE SECOND FORM's CARD OF 'butterylaw09.ListsTouch'. -/
def listsTouchUptoCard : Claim7 := { stood := { row := listsTouchUptoRow, standIns := [], harness := (true, "d5686bebc9a562a64c3628ce0f6036f5db4fc94ea739164cb8147f5c791c9c52"), looks := true }, kinds := [], alts := [], laidByText := true, laidKinds := [.handle], laidTests := true, laidLooks := .later }
def ListsTouchUptoCardSaid : Prop := Claim7.holds Tryd.pinned (.plain (OpenSpec.upto listsTouchSpec)) listsTouchUptoCard
end Rows
end Go.Proofs.YtobbifgmjkgkfaaDoor
