/- The pure statement of laws_FnExactAreasOk. -/
import Derived.Test.YtlahnekinlkfmaaQKinds
import Derived.Test.YtlahnekinlkfmaaPflawsFnExactAreasOk
namespace Go.Proofs.Ytlahnekinlkfmaa.P
open Go.RowKit Go.Proofs.YtlahnekinlkfmaaW.PrintWords
def laws_FnExactAreasOk.Pure : Prop := ∀ (l0 : List (S47)), (Q.okL 24 ok47) l0 → ∃ k, laws_FnExactAreasOk.f k l0 = some true
end Go.Proofs.Ytlahnekinlkfmaa.P
