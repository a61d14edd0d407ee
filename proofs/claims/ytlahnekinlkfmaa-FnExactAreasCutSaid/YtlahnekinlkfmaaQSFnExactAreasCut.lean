/- The pure statement of laws_FnExactAreasCut. -/
import Derived.Test.YtlahnekinlkfmaaQKinds
import Derived.Test.YtlahnekinlkfmaaPflawsFnExactAreasCut
namespace Go.Proofs.Ytlahnekinlkfmaa.P
open Go.RowKit Go.Proofs.YtlahnekinlkfmaaW.PrintWords
def laws_FnExactAreasCut.Pure : Prop := ∀ (l0 : List (S47)) (a1 : Int) (a2 : Int), (Q.okL 24 ok47) l0 → (Q.okI .i64) a1 → (Q.okI .i64) a2 → ∃ k, laws_FnExactAreasCut.f k l0 a1 a2 = some true
end Go.Proofs.Ytlahnekinlkfmaa.P
