/-
  DERIVED. GIVEN WITH THE SEED: THE CARDS: each row of YthjabhcbkbchjaaDoorRows.lean that lists a variable, with what it lists TIED to the program's text (the seventh form; the later family's looks); each row that meets fmt, with fmt's text TOLD by the authors' own Lean function (tested against real Go, not proved from fmt's source: count such statements apart). THE CARD IS WHAT COUNTS. Prove the row's statement (the work); the ties are given (YthjabhcbkbchjaaDoorTie.lean); close each card by the builder's one call (the guide's Derived/Test/ToyasCard.lean, 'card_holds'). Laid BY PROGRAM, IN A SANDBOX (cutbox-door.mjs). By AI agents, Wed Nov 11 2026. No macro, syntax, notation, axiom, sorry.
-/
import Derived.Test.YthjabhcbkbchjaaDoorRows
import GoSem.ClaimSeven
namespace Go.Proofs.YthjabhcbkbchjaaDoor
namespace Rows

/-- THE TIED CARD OF 'butterylaw08.SlabClasses'. -/
def slabClassesCard : Claim7 := { stood := { row := slabClassesRow, standIns := [], harness := (true, "0e83a82835d5a56cced6a8bc94a777bc275114c23a74a44b049cf1b5ca1621b1"), looks := true }, kinds := [], alts := [], laidByText := true, laidKinds := [.handle], laidTests := true, laidLooks := .later }
def SlabClassesCardSaid : Prop := Claim7.holds Tryd.pinned (.plain (OpenSpec.ofChange slabClassesSpec)) slabClassesCard

/-- THE TIED CARD OF 'butterylaw08.SlabClose'. -/
def slabCloseCard : Claim7 := { stood := { row := slabCloseRow, standIns := [], harness := (true, "0e83a82835d5a56cced6a8bc94a777bc275114c23a74a44b049cf1b5ca1621b1"), looks := true }, kinds := [], alts := [], laidByText := true, laidKinds := [.handle], laidTests := true, laidLooks := .later }
def SlabCloseCardSaid : Prop := Claim7.holds Tryd.pinned (.plain (OpenSpec.ofChange slabCloseSpec)) slabCloseCard

/-- THE TIED CARD OF 'butterylaw08.SlabBounds'. -/
def slabBoundsCard : Claim7 := { stood := { row := slabBoundsRow, standIns := [], harness := (true, "0e83a82835d5a56cced6a8bc94a777bc275114c23a74a44b049cf1b5ca1621b1"), looks := true }, kinds := [], alts := [], laidByText := true, laidKinds := [.handle], laidTests := true, laidLooks := .later }
def SlabBoundsCardSaid : Prop := Claim7.holds Tryd.pinned (.plain (OpenSpec.ofChange slabBoundsSpec)) slabBoundsCard

/-- THE TIED CARD OF 'butterylaw18.AdmitDoes'. -/
def admitDoesCard : Claim7 := { stood := { row := admitDoesRow, standIns := [], harness := (true, "0e83a82835d5a56cced6a8bc94a777bc275114c23a74a44b049cf1b5ca1621b1"), looks := true }, kinds := [], alts := [], laidByText := true, laidKinds := [.handle], laidTests := true, laidLooks := .later }
def AdmitDoesCardSaid : Prop := Claim7.holds Tryd.pinned (.plain (OpenSpec.ofChange admitDoesSpec)) admitDoesCard

/-- THE TIED CARD OF 'butterylaw18.AdmitFirst'. -/
def admitFirstCard : Claim7 := { stood := { row := admitFirstRow, standIns := [], harness := (true, "0e83a82835d5a56cced6a8bc94a777bc275114c23a74a44b049cf1b5ca1621b1"), looks := true }, kinds := [], alts := [], laidByText := true, laidKinds := [.handle], laidTests := true, laidLooks := .later }
def AdmitFirstCardSaid : Prop := Claim7.holds Tryd.pinned (.plain (OpenSpec.ofChange admitFirstSpec)) admitFirstCard

/-- THE TIED CARD OF 'butterylaw18.AdmitBounds'. -/
def admitBoundsCard : Claim7 := { stood := { row := admitBoundsRow, standIns := [], harness := (true, "0e83a82835d5a56cced6a8bc94a777bc275114c23a74a44b049cf1b5ca1621b1"), looks := true }, kinds := [], alts := [], laidByText := true, laidKinds := [.handle], laidTests := true, laidLooks := .later }
def AdmitBoundsCardSaid : Prop := Claim7.holds Tryd.pinned (.plain (OpenSpec.ofChange admitBoundsSpec)) admitBoundsCard

/-- THE TIED CARD OF 'butterylaw08.SlabDoes'. -/
def slabDoesCard : Claim7 := { stood := { row := slabDoesRow, standIns := [], harness := (true, "0e83a82835d5a56cced6a8bc94a777bc275114c23a74a44b049cf1b5ca1621b1"), looks := true }, kinds := [], alts := [], laidByText := true, laidKinds := [.handle], laidTests := true, laidLooks := .later }
def SlabDoesCardSaid : Prop := Claim7.holds Tryd.pinned (.plain (OpenSpec.ofChange slabDoesSpec)) slabDoesCard

/-- THE SECOND FORM's CARD OF 'butterylaw08.SlabClasses'. -/
def slabClassesUptoCard : Claim7 := { stood := { row := slabClassesUptoRow, standIns := [], harness := (true, "0e83a82835d5a56cced6a8bc94a777bc275114c23a74a44b049cf1b5ca1621b1"), looks := true }, kinds := [], alts := [], laidByText := true, laidKinds := [.handle], laidTests := true, laidLooks := .later }
def SlabClassesUptoCardSaid : Prop := Claim7.holds Tryd.pinned (.plain (OpenSpec.upto slabClassesSpec)) slabClassesUptoCard

/-- THE SECOND FORM's CARD OF 'butterylaw08.SlabClose'. -/
def slabCloseUptoCard : Claim7 := { stood := { row := slabCloseUptoRow, standIns := [], harness := (true, "0e83a82835d5a56cced6a8bc94a777bc275114c23a74a44b049cf1b5ca1621b1"), looks := true }, kinds := [], alts := [], laidByText := true, laidKinds := [.handle], laidTests := true, laidLooks := .later }
def SlabCloseUptoCardSaid : Prop := Claim7.holds Tryd.pinned (.plain (OpenSpec.upto slabCloseSpec)) slabCloseUptoCard

/-- THE SECOND FORM's CARD OF 'butterylaw08.SlabBounds'. -/
def slabBoundsUptoCard : Claim7 := { stood := { row := slabBoundsUptoRow, standIns := [], harness := (true, "0e83a82835d5a56cced6a8bc94a777bc275114c23a74a44b049cf1b5ca1621b1"), looks := true }, kinds := [], alts := [], laidByText := true, laidKinds := [.handle], laidTests := true, laidLooks := .later }
def SlabBoundsUptoCardSaid : Prop := Claim7.holds Tryd.pinned (.plain (OpenSpec.upto slabBoundsSpec)) slabBoundsUptoCard

/-- THE SECOND FORM's CARD OF 'butterylaw18.AdmitDoes'. -/
def admitDoesUptoCard : Claim7 := { stood := { row := admitDoesUptoRow, standIns := [], harness := (true, "0e83a82835d5a56cced6a8bc94a777bc275114c23a74a44b049cf1b5ca1621b1"), looks := true }, kinds := [], alts := [], laidByText := true, laidKinds := [.handle], laidTests := true, laidLooks := .later }
def AdmitDoesUptoCardSaid : Prop := Claim7.holds Tryd.pinned (.plain (OpenSpec.upto admitDoesSpec)) admitDoesUptoCard

/-- THE SECOND FORM's CARD OF 'butterylaw18.AdmitFirst'. -/
def admitFirstUptoCard : Claim7 := { stood := { row := admitFirstUptoRow, standIns := [], harness := (true, "0e83a82835d5a56cced6a8bc94a777bc275114c23a74a44b049cf1b5ca1621b1"), looks := true }, kinds := [], alts := [], laidByText := true, laidKinds := [.handle], laidTests := true, laidLooks := .later }
def AdmitFirstUptoCardSaid : Prop := Claim7.holds Tryd.pinned (.plain (OpenSpec.upto admitFirstSpec)) admitFirstUptoCard

/-- THE SECOND FORM's CARD OF 'butterylaw18.AdmitBounds'. -/
def admitBoundsUptoCard : Claim7 := { stood := { row := admitBoundsUptoRow, standIns := [], harness := (true, "0e83a82835d5a56cced6a8bc94a777bc275114c23a74a44b049cf1b5ca1621b1"), looks := true }, kinds := [], alts := [], laidByText := true, laidKinds := [.handle], laidTests := true, laidLooks := .later }
def AdmitBoundsUptoCardSaid : Prop := Claim7.holds Tryd.pinned (.plain (OpenSpec.upto admitBoundsSpec)) admitBoundsUptoCard

/-- THE SECOND FORM's CARD OF 'butterylaw08.SlabDoes'. -/
def slabDoesUptoCard : Claim7 := { stood := { row := slabDoesUptoRow, standIns := [], harness := (true, "0e83a82835d5a56cced6a8bc94a777bc275114c23a74a44b049cf1b5ca1621b1"), looks := true }, kinds := [], alts := [], laidByText := true, laidKinds := [.handle], laidTests := true, laidLooks := .later }
def SlabDoesUptoCardSaid : Prop := Claim7.holds Tryd.pinned (.plain (OpenSpec.upto slabDoesSpec)) slabDoesUptoCard
end Rows
end Go.Proofs.YthjabhcbkbchjaaDoor
