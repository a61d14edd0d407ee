/- The pure statement of laws_FnExactBytesGet. -/
import Derived.Test.YthoapmfpokohnaaQKinds
import Derived.Test.YthoapmfpokohnaaPflawsFnExactBytesGet
namespace Go.Proofs.Ythoapmfpokohnaa.P
open Go.RowKit Go.Proofs.YthoapmfpokohnaaW.PrintWords
def laws_FnExactBytesGet.Pure : Prop := ∀ (l0_0 : List (S126)) (a1 : Int) (a2 : Int), (Q.okL 80 ok126) l0_0 → (Q.okI .i64) a1 → (Q.okI .i64) a2 → ∃ k, laws_FnExactBytesGet.f k l0_0 a1 a2 = some true
end Go.Proofs.Ythoapmfpokohnaa.P
