/- The pure statement of laws_FnExactShellLine. -/
import Derived.Test.YtkjjlkkfhbfbmaaDoorQKinds
import Derived.Test.YtkjjlkkfhbfbmaaDoorPflawsFnExactShellLine
namespace Go.Proofs.YtkjjlkkfhbfbmaaDoor.P
open Go.RowKit Go.Proofs.YtkjjlkkfhbfbmaaDoorW.PrintWords
def laws_FnExactShellLine.Pure : Prop := ∀ (a0 : ByteArray), Q.okS a0 → ∃ k, laws_FnExactShellLine.f k a0 = some true
end Go.Proofs.YtkjjlkkfhbfbmaaDoor.P
