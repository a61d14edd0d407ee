/- The pure statement of laws_FnExactLockStuck. -/
import Derived.Test.YtmpdoodimmmemaaQKinds
import Derived.Test.YtmpdoodimmmemaaPflawsFnExactLockStuck
namespace Go.Proofs.Ytmpdoodimmmemaa.P
open Go.RowKit Go.Proofs.YtmpdoodimmmemaaW.PrintWords
def laws_FnExactLockStuck.Pure : Prop := ∀ (a0_0 : Int) (l0_1 : List (S74)) (l0_2 : List Int), (Q.okI .i64) a0_0 → (Q.okL 32 ok74) l0_1 → (Q.okL 8 (Q.okI .i64)) l0_2 → ∃ k, laws_FnExactLockStuck.f k a0_0 l0_1 l0_2 = some true
end Go.Proofs.Ytmpdoodimmmemaa.P
