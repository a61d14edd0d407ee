/-
  DERIVED. GIVEN WITH THE SEED: THE CARDS: each row of YtmpdoodimmmemaaDoorRows.lean that lists a variable, with what it lists TIED to the program's text (the seventh form; the later family's looks); each row that meets fmt, with fmt's text TOLD by the authors' own Lean function (tested against real Go, not proved from fmt's source: count such statements apart). THE CARD IS WHAT COUNTS. Prove the row's statement (the work); the ties are given (YtmpdoodimmmemaaDoorTie.lean); close each card by the builder's one call (the guide's Derived/Test/ToyasCard.lean, 'card_holds'). Laid BY PROGRAM, IN A SANDBOX (cutbox-door.mjs). By AI agents, Wed Nov 11 2026. No macro, syntax, notation, axiom, sorry.
-/
import Derived.Test.YtmpdoodimmmemaaDoorRows
import GoSem.ClaimSeven
namespace Go.Proofs.YtmpdoodimmmemaaDoor
namespace Rows

/-- THE TIED CARD OF 'laws.FnExactCallOk'. -/
def fnExactCallOkCard : Claim7 := { stood := { row := fnExactCallOkRow, standIns := [], harness := (true, "c448176edbb7ba260e8c241510821ed654928bd3c1f67a0cbcf823762a402369"), looks := false }, kinds := [], alts := [], laidByText := true, laidKinds := [.data, .pinned], laidTests := true, laidLooks := .later }
def FnExactCallOkCardSaid : Prop := Claim7.holds Tryd.pinned (.plain (OpenSpec.ofChange fnExactCallOkSpec)) fnExactCallOkCard

/-- THE SECOND FORM's CARD OF 'laws.FnExactCallOk'. -/
def fnExactCallOkUptoCard : Claim7 := { stood := { row := fnExactCallOkUptoRow, standIns := [], harness := (true, "c448176edbb7ba260e8c241510821ed654928bd3c1f67a0cbcf823762a402369"), looks := false }, kinds := [], alts := [], laidByText := true, laidKinds := [.data, .pinned], laidTests := true, laidLooks := .later }
def FnExactCallOkUptoCardSaid : Prop := Claim7.holds Tryd.pinned (.plain (OpenSpec.upto fnExactCallOkSpec)) fnExactCallOkUptoCard
end Rows
end Go.Proofs.YtmpdoodimmmemaaDoor
