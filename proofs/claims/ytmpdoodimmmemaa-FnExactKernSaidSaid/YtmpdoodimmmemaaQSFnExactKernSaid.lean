/- The pure statement of laws_FnExactKernSaid. -/
import Derived.Test.YtmpdoodimmmemaaQKinds
import Derived.Test.YtmpdoodimmmemaaPflawsFnExactKernSaid
namespace Go.Proofs.Ytmpdoodimmmemaa.P
open Go.RowKit Go.Proofs.YtmpdoodimmmemaaW.PrintWords
def laws_FnExactKernSaid.Pure : Prop := ∀ (l0 : List (S50)) (a1 : Int), (Q.okL 32 ok50) l0 → (Q.okI .i64) a1 → ∃ k, laws_FnExactKernSaid.f k l0 a1 = some true
end Go.Proofs.Ytmpdoodimmmemaa.P
