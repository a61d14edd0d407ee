/-
  DERIVED. GIVEN WITH THE SEED: THE CARDS: each row of YtkjjlkkfhbfbmaaDoorRows.lean that lists a variable, with what it lists TIED to the program's text (the seventh form; the later family's looks); each row that meets fmt, with fmt's text TOLD by the authors' own Lean function (tested against real Go, not proved from fmt's source: count such statements apart). THE CARD IS WHAT COUNTS. Prove the row's statement (the work); the ties are given (YtkjjlkkfhbfbmaaDoorTie.lean); close each card by the builder's one call (the guide's Derived/Test/ToyasCard.lean, 'card_holds'). Laid BY PROGRAM, IN A SANDBOX (cutbox-door.mjs). By AI agents, Wed Nov 11 2026. No macro, syntax, notation, axiom, sorry.
-/
import Derived.Test.YtkjjlkkfhbfbmaaDoorRows
import GoSem.ClaimSeven
namespace Go.Proofs.YtkjjlkkfhbfbmaaDoor
namespace Rows

/-- THE TIED CARD OF 'laws.FnExactShellLine'. -/
def fnExactShellLineCard : Claim7 := { stood := { row := fnExactShellLineRow, standIns := [], harness := (true, "d30f5cddeffd0f42290889f488a8b018c06bfa75a6b846654016d4695432d792"), looks := true }, kinds := [], alts := [], laidByText := true, laidKinds := [.data, .data, .data, .data, .sentinel, .sentinel, .listed, .data, .pinned], laidTests := true, laidLooks := .later }
def FnExactShellLineCardSaid : Prop := Claim7.holds Tryd.pinned (.plain (OpenSpec.ofChange fnExactShellLineSpec)) fnExactShellLineCard

/-- THE TIED CARD OF 'laws.FnShellLine'. -/
def fnShellLineCard : Claim7 := { stood := { row := fnShellLineRow, standIns := [], harness := (true, "d30f5cddeffd0f42290889f488a8b018c06bfa75a6b846654016d4695432d792"), looks := true }, kinds := [], alts := [], laidByText := true, laidKinds := [.data, .data, .data, .data, .sentinel, .sentinel, .listed, .data, .pinned], laidTests := true, laidLooks := .later }
def FnShellLineCardSaid : Prop := Claim7.holds Tryd.pinned (.plain (OpenSpec.ofChange fnShellLineSpec)) fnShellLineCard

/-- THE SECOND FORM's CARD OF 'laws.FnExactShellLine'. -/
def fnExactShellLineUptoCard : Claim7 := { stood := { row := fnExactShellLineUptoRow, standIns := [], harness := (true, "d30f5cddeffd0f42290889f488a8b018c06bfa75a6b846654016d4695432d792"), looks := true }, kinds := [], alts := [], laidByText := true, laidKinds := [.data, .data, .data, .data, .sentinel, .sentinel, .listed, .data, .pinned], laidTests := true, laidLooks := .later }
def FnExactShellLineUptoCardSaid : Prop := Claim7.holds Tryd.pinned (.plain (OpenSpec.upto fnExactShellLineSpec)) fnExactShellLineUptoCard

/-- THE SECOND FORM's CARD OF 'laws.FnShellLine'. -/
def fnShellLineUptoCard : Claim7 := { stood := { row := fnShellLineUptoRow, standIns := [], harness := (true, "d30f5cddeffd0f42290889f488a8b018c06bfa75a6b846654016d4695432d792"), looks := true }, kinds := [], alts := [], laidByText := true, laidKinds := [.data, .data, .data, .data, .sentinel, .sentinel, .listed, .data, .pinned], laidTests := true, laidLooks := .later }
def FnShellLineUptoCardSaid : Prop := Claim7.holds Tryd.pinned (.plain (OpenSpec.upto fnShellLineSpec)) fnShellLineUptoCard
end Rows
end Go.Proofs.YtkjjlkkfhbfbmaaDoor
