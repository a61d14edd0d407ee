/- The pure statement of laws_FnExactAreasAt. -/
import Derived.Test.YtlahnekinlkfmaaQKinds
import Derived.Test.YtlahnekinlkfmaaPflawsFnExactAreasAt
namespace Go.Proofs.Ytlahnekinlkfmaa.P
open Go.RowKit Go.Proofs.YtlahnekinlkfmaaW.PrintWords
def laws_FnExactAreasAt.Pure : Prop := ∀ (l0 : List (S47)) (a1 : Int), (Q.okL 24 ok47) l0 → (Q.okI .i64) a1 → ∃ k, laws_FnExactAreasAt.f k l0 a1 = some true
end Go.Proofs.Ytlahnekinlkfmaa.P
