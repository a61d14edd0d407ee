/- The pure statement of laws_FnShellLine. -/
import Derived.Test.YtkjjlkkfhbfbmaaDoorQKinds
import Derived.Test.YtkjjlkkfhbfbmaaDoorPfM6
namespace Go.Proofs.YtkjjlkkfhbfbmaaDoor.P
open Go.RowKit Go.Proofs.YtkjjlkkfhbfbmaaDoorW.PrintWords
def laws_FnShellLine.Pure : Prop := ∀ (l0 : List Int), (Q.okL 1 (Q.okI .u8)) l0 → ∃ k, laws_FnShellLine.f k l0 = some true
end Go.Proofs.YtkjjlkkfhbfbmaaDoor.P
