/- The pure statement of laws_FnExactAreasPages. -/
import Derived.Test.YtlahnekinlkfmaaQKinds
import Derived.Test.YtlahnekinlkfmaaPflawsFnExactAreasPages
namespace Go.Proofs.Ytlahnekinlkfmaa.P
open Go.RowKit Go.Proofs.YtlahnekinlkfmaaW.PrintWords
def laws_FnExactAreasPages.Pure : Prop := ∀ (l0 : List (S47)), (Q.okL 24 ok47) l0 → ∃ k, laws_FnExactAreasPages.f k l0 = some true
end Go.Proofs.Ytlahnekinlkfmaa.P
