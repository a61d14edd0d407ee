/-
  DERIVED. GIVEN WITH THE SEED: THE CARDS: each row of YtlnlhpgghkkhaaaGreatDoorRows.lean that lists a variable, with what it lists TIED to the program's text (the seventh form; the later family's looks); each row that meets fmt, with fmt's text TOLD by the authors' own Lean function (tested against real Go, not proved from fmt's source: count such statements apart). THE CARD IS WHAT COUNTS. Prove the row's statement (the work); the ties are given (YtlnlhpgghkkhaaaGreatDoorTie.lean); close each card by the builder's one call (the guide's Derived/Test/ToyasCard.lean, 'card_holds'). Laid BY PROGRAM, IN A SANDBOX (cutbox-door.mjs). By AI agents, Wed Nov 11 2026. No macro, syntax, notation, axiom, sorry.
-/
import Derived.Test.YtlnlhpgghkkhaaaGreatDoorRows
import GoSem.ClaimSeven
namespace Go.Proofs.YtlnlhpgghkkhaaaGreatDoor
namespace Rows

/-- THE TIED CARD OF 'laws.FnExactVfsWalk'. -/
def fnExactVfsWalkCard : Claim7 := { stood := { row := fnExactVfsWalkRow, standIns := [], harness := (true, "313ec934d834c1e959e919a8398140c55c7fe76b9ccc26fc52a63b8bc643d8eb"), looks := false }, kinds := [], alts := [], laidByText := true, laidKinds := [.data, .pinned], laidTests := true, laidLooks := .later }
def FnExactVfsWalkCardSaid : Prop := Claim7.holds Tryz.pinned (.plain (OpenSpec.ofChange fnExactVfsWalkSpec)) fnExactVfsWalkCard

/-- THE TIED CARD OF 'laws.FnVfsPath'. -/
def fnVfsPathCard : Claim7 := { stood := { row := fnVfsPathRow, standIns := [], harness := (true, "313ec934d834c1e959e919a8398140c55c7fe76b9ccc26fc52a63b8bc643d8eb"), looks := false }, kinds := [], alts := [], laidByText := true, laidKinds := [.data, .pinned], laidTests := true, laidLooks := .later }
def FnVfsPathCardSaid : Prop := Claim7.holds Tryz.pinned (.plain (OpenSpec.ofChange fnVfsPathSpec)) fnVfsPathCard

/-- THE TIED CARD OF 'laws.FnExactVfsParent'. -/
def fnExactVfsParentCard : Claim7 := { stood := { row := fnExactVfsParentRow, standIns := [], harness := (true, "313ec934d834c1e959e919a8398140c55c7fe76b9ccc26fc52a63b8bc643d8eb"), looks := false }, kinds := [], alts := [], laidByText := true, laidKinds := [.data, .pinned], laidTests := true, laidLooks := .later }
def FnExactVfsParentCardSaid : Prop := Claim7.holds Tryz.pinned (.plain (OpenSpec.ofChange fnExactVfsParentSpec)) fnExactVfsParentCard

/-- THE TIED CARD OF 'laws.FnVfsWalk'. -/
def fnVfsWalkCard : Claim7 := { stood := { row := fnVfsWalkRow, standIns := [], harness := (true, "313ec934d834c1e959e919a8398140c55c7fe76b9ccc26fc52a63b8bc643d8eb"), looks := false }, kinds := [], alts := [], laidByText := true, laidKinds := [.data, .pinned], laidTests := true, laidLooks := .later }
def FnVfsWalkCardSaid : Prop := Claim7.holds Tryz.pinned (.plain (OpenSpec.ofChange fnVfsWalkSpec)) fnVfsWalkCard

/-- THE TIED CARD OF 'laws.FnWalkUp'. -/
def fnWalkUpCard : Claim7 := { stood := { row := fnWalkUpRow, standIns := [], harness := (true, "313ec934d834c1e959e919a8398140c55c7fe76b9ccc26fc52a63b8bc643d8eb"), looks := false }, kinds := [], alts := [], laidByText := true, laidKinds := [.data, .pinned], laidTests := true, laidLooks := .later }
def FnWalkUpCardSaid : Prop := Claim7.holds Tryz.pinned (.plain (OpenSpec.ofChange fnWalkUpSpec)) fnWalkUpCard

/-- THE TIED CARD OF 'laws.FnWalkZero'. -/
def fnWalkZeroCard : Claim7 := { stood := { row := fnWalkZeroRow, standIns := [], harness := (true, "313ec934d834c1e959e919a8398140c55c7fe76b9ccc26fc52a63b8bc643d8eb"), looks := false }, kinds := [], alts := [], laidByText := true, laidKinds := [.data, .pinned], laidTests := true, laidLooks := .later }
def FnWalkZeroCardSaid : Prop := Claim7.holds Tryz.pinned (.plain (OpenSpec.ofChange fnWalkZeroSpec)) fnWalkZeroCard

/-- THE TIED CARD OF 'laws.FnVfsParent'. -/
def fnVfsParentCard : Claim7 := { stood := { row := fnVfsParentRow, standIns := [], harness := (true, "313ec934d834c1e959e919a8398140c55c7fe76b9ccc26fc52a63b8bc643d8eb"), looks := false }, kinds := [], alts := [], laidByText := true, laidKinds := [.data, .pinned], laidTests := true, laidLooks := .later }
def FnVfsParentCardSaid : Prop := Claim7.holds Tryz.pinned (.plain (OpenSpec.ofChange fnVfsParentSpec)) fnVfsParentCard

/-- THE SECOND FORM's CARD OF 'laws.FnExactVfsWalk'. -/
def fnExactVfsWalkUptoCard : Claim7 := { stood := { row := fnExactVfsWalkUptoRow, standIns := [], harness := (true, "313ec934d834c1e959e919a8398140c55c7fe76b9ccc26fc52a63b8bc643d8eb"), looks := false }, kinds := [], alts := [], laidByText := true, laidKinds := [.data, .pinned], laidTests := true, laidLooks := .later }
def FnExactVfsWalkUptoCardSaid : Prop := Claim7.holds Tryz.pinned (.plain (OpenSpec.upto fnExactVfsWalkSpec)) fnExactVfsWalkUptoCard

/-- THE SECOND FORM's CARD OF 'laws.FnVfsPath'. -/
def fnVfsPathUptoCard : Claim7 := { stood := { row := fnVfsPathUptoRow, standIns := [], harness := (true, "313ec934d834c1e959e919a8398140c55c7fe76b9ccc26fc52a63b8bc643d8eb"), looks := false }, kinds := [], alts := [], laidByText := true, laidKinds := [.data, .pinned], laidTests := true, laidLooks := .later }
def FnVfsPathUptoCardSaid : Prop := Claim7.holds Tryz.pinned (.plain (OpenSpec.upto fnVfsPathSpec)) fnVfsPathUptoCard

/-- THE SECOND FORM's CARD OF 'laws.FnExactVfsParent'. -/
def fnExactVfsParentUptoCard : Claim7 := { stood := { row := fnExactVfsParentUptoRow, standIns := [], harness := (true, "313ec934d834c1e959e919a8398140c55c7fe76b9ccc26fc52a63b8bc643d8eb"), looks := false }, kinds := [], alts := [], laidByText := true, laidKinds := [.data, .pinned], laidTests := true, laidLooks := .later }
def FnExactVfsParentUptoCardSaid : Prop := Claim7.holds Tryz.pinned (.plain (OpenSpec.upto fnExactVfsParentSpec)) fnExactVfsParentUptoCard

/-- THE SECOND FORM's CARD OF 'laws.FnVfsWalk'. -/
def fnVfsWalkUptoCard : Claim7 := { stood := { row := fnVfsWalkUptoRow, standIns := [], harness := (true, "313ec934d834c1e959e919a8398140c55c7fe76b9ccc26fc52a63b8bc643d8eb"), looks := false }, kinds := [], alts := [], laidByText := true, laidKinds := [.data, .pinned], laidTests := true, laidLooks := .later }
def FnVfsWalkUptoCardSaid : Prop := Claim7.holds Tryz.pinned (.plain (OpenSpec.upto fnVfsWalkSpec)) fnVfsWalkUptoCard

/-- THE SECOND FORM's CARD OF 'laws.FnWalkUp'. -/
def fnWalkUpUptoCard : Claim7 := { stood := { row := fnWalkUpUptoRow, standIns := [], harness := (true, "313ec934d834c1e959e919a8398140c55c7fe76b9ccc26fc52a63b8bc643d8eb"), looks := false }, kinds := [], alts := [], laidByText := true, laidKinds := [.data, .pinned], laidTests := true, laidLooks := .later }
def FnWalkUpUptoCardSaid : Prop := Claim7.holds Tryz.pinned (.plain (OpenSpec.upto fnWalkUpSpec)) fnWalkUpUptoCard

/-- THE SECOND FORM's CARD OF 'laws.FnWalkZero'. -/
def fnWalkZeroUptoCard : Claim7 := { stood := { row := fnWalkZeroUptoRow, standIns := [], harness := (true, "313ec934d834c1e959e919a8398140c55c7fe76b9ccc26fc52a63b8bc643d8eb"), looks := false }, kinds := [], alts := [], laidByText := true, laidKinds := [.data, .pinned], laidTests := true, laidLooks := .later }
def FnWalkZeroUptoCardSaid : Prop := Claim7.holds Tryz.pinned (.plain (OpenSpec.upto fnWalkZeroSpec)) fnWalkZeroUptoCard

/-- THE SECOND FORM's CARD OF 'laws.FnVfsParent'. -/
def fnVfsParentUptoCard : Claim7 := { stood := { row := fnVfsParentUptoRow, standIns := [], harness := (true, "313ec934d834c1e959e919a8398140c55c7fe76b9ccc26fc52a63b8bc643d8eb"), looks := false }, kinds := [], alts := [], laidByText := true, laidKinds := [.data, .pinned], laidTests := true, laidLooks := .later }
def FnVfsParentUptoCardSaid : Prop := Claim7.holds Tryz.pinned (.plain (OpenSpec.upto fnVfsParentSpec)) fnVfsParentUptoCard
end Rows
end Go.Proofs.YtlnlhpgghkkhaaaGreatDoor
