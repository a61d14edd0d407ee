/- The pure statement of laws_FnExactAreasAdd. -/
import Derived.Test.YtlahnekinlkfmaaQKinds
import Derived.Test.YtlahnekinlkfmaaPflawsFnExactAreasAdd
namespace Go.Proofs.Ytlahnekinlkfmaa.P
open Go.RowKit Go.Proofs.YtlahnekinlkfmaaW.PrintWords
def laws_FnExactAreasAdd.Pure : Prop := ∀ (l0 : List (S47)) (a1_0 : Int) (a1_1 : Int) (a1_2 : Bool) (a1_3 : Bool), (Q.okL 24 ok47) l0 → (Q.okI .i64) a1_0 → (Q.okI .i64) a1_1 → ∃ k, laws_FnExactAreasAdd.f k l0 a1_0 a1_1 a1_2 a1_3 = some true
end Go.Proofs.Ytlahnekinlkfmaa.P
