/- The types of this seat's laws: what reads at such a type is of the print's kind. -/
import Derived.Test.YtkjjlkkfhbfbmaaDoorQOpen
import Derived.Test.YtkjjlkkfhbfbmaaDoorPf0
namespace Go.Proofs.YtkjjlkkfhbfbmaaDoor.P
open Go.RowKit Go.Proofs.YtkjjlkkfhbfbmaaDoorW.PrintWords
set_option linter.unusedVariables false
set_option maxRecDepth 100000
end Go.Proofs.YtkjjlkkfhbfbmaaDoor.P
