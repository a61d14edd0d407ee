/- The pure statement of laws_FnExactAreasSet. -/
import Derived.Test.YtlahnekinlkfmaaQKinds
import Derived.Test.YtlahnekinlkfmaaPflawsFnExactAreasSet
namespace Go.Proofs.Ytlahnekinlkfmaa.P
open Go.RowKit Go.Proofs.YtlahnekinlkfmaaW.PrintWords
def laws_FnExactAreasSet.Pure : Prop := ∀ (l0 : List (S47)) (a1 : Int) (a2 : Int) (a3 : Bool), (Q.okL 24 ok47) l0 → (Q.okI .i64) a1 → (Q.okI .i64) a2 → ∃ k, laws_FnExactAreasSet.f k l0 a1 a2 a3 = some true
end Go.Proofs.Ytlahnekinlkfmaa.P
